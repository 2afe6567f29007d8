/-
  A tile of rows multiplied (layer 12: product.part).
  Rows multiplied with rows, tile by tile (layer 12: gemm.Mul).
-/
import Derived.Test.YtjkmjpjknmghlaaGreatJ25
import Derived.Deep.DeepCutAuto
import Derived.Deep.CutBlock
set_option linter.unusedVariables false
set_option linter.unusedSimpArgs false
namespace Go.Proofs.YtjkmjpjknmghlaaGreat
open Go.RowKit Go.ChangeShapes Go.WideShapes Fx
set_option maxRecDepth 100000
set_option maxHeartbeats 8000000
def gemT (la lb:List Int) (M C i k:Nat):Int:=la.getD (i / C*M+k) 0*lb.getD (i % C*M+k) 0
def gemS (la lb:List Int) (M C i t:Nat):Int:=wrap32 (sumN t (gemT la lb M C i))
def gemL (la lb:List Int) (M C N:Nat) (t:Nat → Nat):List Int:=(List.range N).map fun i=>gemS la lb M C i (t i)
theorem gemL_ext {la lb:List Int} {M C N:Nat} {t u:Nat → Nat} (h:∀ i,i < N → t i=u i):gemL la lb M C N t=gemL la lb M C N u:=by
 unfold gemL
 apply List.map_congr_left
 intro i hi
 rw [h i (List.mem_range.1 hi)]
theorem gemL_at (la lb:List Int) (M C N:Nat) (t:Nat → Nat) (i:Nat) (h:i < N):(gemL la lb M C N t)[i]?=some (gemS la lb M C i (t i)):=by
 unfold gemL
 rw [List.getElem?_map,List.getElem?_range h]
 rfl
theorem gemL_set (la lb:List Int) (M C N:Nat) (t:Nat → Nat) (j m:Nat):(gemL la lb M C N t).set j (gemS la lb M C j m)=gemL la lb M C N (fun i=>if i=j then m else t i):=by
 unfold gemL
 apply List.ext_getElem (by simp)
 intro i h1 h2
 rw [List.getElem_set]
 simp only [List.getElem_map,List.getElem_range]
 by_cases e:j=i
 ·subst e;rw [if_pos rfl,if_pos rfl]
 ·rw [if_neg e,if_neg (fun h=>e h.symm)]
theorem gemL_none (la lb:List Int) (M C N:Nat):gemL la lb M C N (fun _=>0)=List.replicate N 0:=by
 unfold gemL
 apply List.ext_getElem (by simp)
 intro i h1 h2
 simp only [List.getElem_map,List.getElem_range,List.getElem_replicate]
 show wrap32 0=0
 unfold wrap32;decide
def partT (C r0 c0 c1 m1 r c:Nat) (t:Nat → Nat) (i:Nat):Nat:=if r0≤i / C∧c0≤i % C∧i % C < c1∧(i / C < r ∨ (i / C=r∧i % C < c)) then m1 else t i
theorem partT_zero (C r0 c0 c1 m1:Nat) (t:Nat → Nat):partT C r0 c0 c1 m1 r0 c0 t=t:=by
 funext i
 unfold partT
 rw [if_neg (by omega)]
theorem partT_row (C r0 c0 c1 m1 r:Nat) (t:Nat → Nat):partT C r0 c0 c1 m1 r c1 t=partT C r0 c0 c1 m1 (r+1) c0 t:=by
 funext i
 unfold partT
 by_cases h:r0≤i / C∧c0≤i % C∧i % C < c1∧(i / C < r ∨ (i / C=r∧i % C < c1))
 ·rw [if_pos h,if_pos (by omega)]
 ·rw [if_neg h,if_neg (by omega)]
theorem partT_step (C r0 c0 c1 m1 r c:Nat) (t:Nat → Nat) (hr:r0≤r) (hc:c0≤c) (h1:c < c1) (hC:c1≤C):(fun i=>if i=r*C+c then m1 else partT C r0 c0 c1 m1 r c t i)=partT C r0 c0 c1 m1 r (c+1) t:=by
 funext i
 have dv:(r*C+c) / C=r:=by rw [Nat.mul_comm,Nat.mul_add_div (by omega),Nat.div_eq_of_lt (by omega),Nat.add_zero]
 have md:(r*C+c) % C=c:=by rw [Nat.mul_comm,Nat.mul_add_mod,Nat.mod_eq_of_lt (by omega)]
 have key:i=r*C+c ↔ i / C=r∧i % C=c:=by
  constructor
  ·intro h;subst h;exact ⟨dv,md⟩
  ·rintro ⟨h,h'⟩
   have:=Nat.div_add_mod i C
   rw [h,h',Nat.mul_comm] at this
   exact this.symm
 unfold partT
 by_cases h:i=r*C+c
 ·have h2:=key.1 h
  rw [if_pos h,if_pos (by omega)]
 ·have h2:¬ (i / C=r∧i % C=c):=fun e=>h (key.2 e)
  rw [if_neg h]
  by_cases h3:r0≤i / C∧c0≤i % C∧i % C < c1∧(i / C < r ∨ (i / C=r∧i % C < c))
  ·rw [if_pos h3,if_pos (by omega)]
  ·rw [if_neg h3,if_neg (by omega)]
theorem getD_sub (l:List Int) (p n k:Nat) (h:k < n):((l.drop p).take n).getD k 0=l.getD (p+k) 0:=by
 rw [List.getD_eq_getElem?_getD,List.getElem?_take,if_pos h,List.getElem?_drop,← List.getD_eq_getElem?_getD]
theorem gemS_more (la lb:List Int) (M C r c m0 D:Nat) (hc:c < C) :
  wrap32 (gemS la lb M C (r*C+c) m0+wrap32 (dotN ((la.drop (r*M+m0)).take D) ((lb.drop (c*M+m0)).take D) D))=gemS la lb M C (r*C+c) (m0+D):=by
 have dv:(r*C+c) / C=r:=by rw [Nat.mul_comm,Nat.mul_add_div (by omega),Nat.div_eq_of_lt hc,Nat.add_zero]
 have md:(r*C+c) % C=c:=by rw [Nat.mul_comm,Nat.mul_add_mod,Nat.mod_eq_of_lt hc]
 have e:dotN ((la.drop (r*M+m0)).take D) ((lb.drop (c*M+m0)).take D) D=sumN D (fun k=>gemT la lb M C (r*C+c) (m0+k)):=by
  unfold dotN
  refine sumN_congr fun k hk=>?_
  unfold gemT
  rw [getD_sub _ _ _ _ hk,getD_sub _ _ _ _ hk,dv,md,Nat.add_assoc,Nat.add_assoc]
 rw [e]
 unfold gemS
 rw [sumN_append,wrap32_add,wrap32_add']
theorem part_any (gp q m base R M C N r0 c0 m0 r1 c1 m1:Nat) (A:Option Addr) (na ca:Nat) (la:List Int) (B:Option Addr) (nb cb:Nat) (lb:List Int) (t:Nat → Nat) (w:World)
  (ha:Sl (tInt .i16) w (blo m) A na ca la) (hb:Sl (tInt .i8) w (blo m) B nb cb lb) (hm:m≤base) (hna:na=R*M) (hnb:nb=C*M) (hN:R*C=N) (hr:r0≤r1∧r1≤R) (hc:c0≤c1∧c1≤C) (hmm:m0 < m1∧m1≤M) (bR:R≤16384) (bC:C≤16384) (bM:M≤16384)
  (bp:Blk w gp 196 #[.slice A na ca,.slice B nb cb,.int .i64 M,.int .i64 C,.slice (some ⟨q,0,none⟩) N N]) (hpq:gp ≠ q)
  (hown:Own (tInt .i32) w (fun _=>False) base 21 (.slice (some ⟨q,0,none⟩) N N) N (gemL la lb M C N t)) (ht:∀ i,i < N → r0≤i / C → i / C < r1 → c0≤i % C → i % C < c1 → t i=m0) :
  Calls Tryz.prog 151 #[.pointer (some ⟨gp,0,none⟩),.agg (sN r0 c0 m0),.agg (sN r1 c1 m1)] w
   fun e w'=>e=.returned (.tuple #[])∧Own (tInt .i32) w' (fun _=>False) base 21 (.slice (some ⟨q,0,none⟩) N N) N (gemL la lb M C N (partT C r0 c0 c1 m1 r1 c0 t))∧w.grownBy w' (some q):=by
 have HA:=zH ha
 have HB:=zH hb
 have hq:=hown.lt _ rfl
 have NA:=zH hna
 have NB:=zH hnb
 have NN:=zH hN
 have HT:=zH ht
 have hmx:=ha.max_le
 have hmx2:=hb.max_le
 rw [← partT_zero C r0 c0 c1 m1 t] at hown
 obtain ⟨w1,hw_w1,BF,k_w1⟩:=nB w (sN r0 c0 m0) 83
 have GR:=zH (below_grown (r:=some q) k_w1)
 have ON:=zH (hown.below k_w1 (Nat.le_refl _) (fun _ h=>h.elim))
 have BP:=zH (bp.fut k_w1)
 have QB:=zH (show q < w.heap.size from hq.2)
 have S1:w1.heap.size=w.heap.size+1:=by rw [← hw_w1];simp
 obtain ⟨w2,hw_w2,BT,k_w2⟩:=nB w1 (sN r1 c1 m1) 83
 replace BF:=zH (BF.out.fut k_w2)
 replace GR:=zH (grown_tr GR.out (below_grown k_w2))
 replace ON:=zH (ON.out.below k_w2 (Nat.le_refl _) (fun _ h=>h.elim))
 replace BP:=zH (BP.out.fut k_w2)
 have QT:=zH (show w1.heap.size ≠ q by have:=QB.out;omega)
 have PQ:=zH hpq
 have QM:=zH (show m≤q from Nat.le_trans hm hq.1)
 have LA:=zH (show m≤w.heap.size from Nat.le_trans hm (Nat.le_trans hq.1 (Nat.le_of_lt hq.2)))
 have bn:N≤16384*16384:=by rw [← hN];exact Nat.mul_le_mul bR bC
 clear ha hb hown bp hq k_w1 k_w2 hN hna hnb ht S1
 go_enter Tryz.func151,Tryz.ntmps151
 have x0:=BF.out.cell 0
 simp only [gX] at x0
 go_wp2_with fail
 clear hw_w1 hw_w2 x0
 go_loopw [6] (fun ii wr=>∃ r:Nat,r0≤r∧r≤r1∧ii=.int .i64 r∧w.grownBy wr (some q)∧Blk wr w.heap.size 83 (sN r0 c0 m0)∧Blk wr w1.heap.size 83 (sN r1 c1 m1)∧Blk wr gp 196 #[.slice A na ca,.slice B nb cb,.int .i64 M,.int .i64 C,.slice (some ⟨q,0,none⟩) N N]∧Own (tInt .i32) wr (fun _=>False) base 21 (.slice (some ⟨q,0,none⟩) N N) N (gemL la lb M C N (partT C r0 c0 c1 m1 r c0 t))) (fun ii _=>r1 - (intOf ii).toNat)
 case atStart=>exact ⟨r0,Nat.le_refl _,hr.1,rfl,GR.out,BF.out,BT.out,BP.out,ON.out⟩
 case round =>
  obtain ⟨r,hr0,hr1,rfl,f0,f1,f2,f3,f4⟩:=hrel
  clear GR BF BT BP ON
  have GR:=zH f0
  have BF:=zH f1
  have BT:=zH f2
  have BP:=zH f3
  have ON:=zH f4
  clear f0 f1 f2 f3 f4
  have y0:=BT.out.cell 0
  simp only [gX] at y0
  by_cases hlt:r < r1
  ·have p1:(r:Int) < (r1:Int):=by omega
   obtain ⟨rm,hrm⟩:∃ x,r*M=x:=⟨_,rfl⟩
   have rmi:(r:Int)*(M:Int)=(rm:Int):=by rw [← hrm];simp
   have rmb:rm≤16384*16384:=by rw [← hrm];exact Nat.mul_le_mul (by omega) bM
   have rml:rm+M≤na:=by rw [NA.out,← hrm,← Nat.succ_mul];exact Nat.mul_le_mul_right _ (by omega)
   have e1:IntKind.i64.wrap ((r:Int)*(M:Int))=(rm:Int):=by rw [rmi];exact IntWalk.i64_in _ (by omega)
   obtain ⟨D,hD⟩:∃ D,m1=m0+D:=⟨m1 - m0,by omega⟩
   obtain ⟨lo,hlo⟩:∃ x,rm+m0=x:=⟨_,rfl⟩
   have e2:IntKind.i64.wrap ((rm:Int)+(m0:Int))=(lo:Int):=(IntWalk.i64_in _ (by omega)).trans (by omega)
   obtain ⟨hi,hhi⟩:∃ x,lo+D=x:=⟨_,rfl⟩
   have e3:IntKind.i64.wrap ((rm:Int)+(m1:Int))=(hi:Int):=(IntWalk.i64_in _ (by omega)).trans (by omega)
   obtain ⟨ba,oa,hAe,-,-,-,-⟩:=HA.out.int_at 0 (by omega)
   subst hAe
   have HLO:=zH (show r*M+m0=lo by rw [hrm,hlo])
   have hlen:=HA.out.cap_le
   have lo1:hi≤na:=by omega
   have lo2:hi≤ca:=by omega
   have lo3:lo≤hi:=by omega
   have lo4:hi - lo=D:=by omega
   have lo5:¬ ca=lo:=by omega
   have HD:=zH hD
   have HHI:=zH hhi
   have x2:=BF.out.cell 2
   have y2:=BT.out.cell 2
   have s0:=BP.out.cell 0
   have s2:=BP.out.cell 2
   simp only [gX] at x2 y2 s0 s2
   clear hrm hlo rmi hD hhi
   go_wp2_with fail
   go_quiet (fail)
   have k_q:=below_drewN (Below.refl wr.heap.size wr) nq
   replace GR:=zH (grown_tr GR.out (below_grown k_q))
   replace BF:=zH (BF.out.fut k_q)
   replace BT:=zH (BT.out.fut k_q)
   replace BP:=zH (BP.out.fut k_q)
   replace ON:=zH (ON.out.below k_q (Nat.le_refl _) (fun _ h=>h.elim))
   clear x2 y2 s0 s2 k_q e1 e2 e3
   generalize wr.drewN nq=wv at *
   have x1:=BF.out.cell 1
   simp only [gX] at x1
   clear y0
   go_wp2_with fail
   clear x1
   go_loopw [8] (fun ii wr=>∃ c:Nat,c0≤c∧c≤c1∧ii=.int .i64 c∧w.grownBy wr (some q)∧Blk wr w.heap.size 83 (sN r0 c0 m0)∧Blk wr w1.heap.size 83 (sN r1 c1 m1)∧Blk wr gp 196 #[.slice (some ⟨ba,oa,none⟩) na ca,.slice B nb cb,.int .i64 M,.int .i64 C,.slice (some ⟨q,0,none⟩) N N]∧Own (tInt .i32) wr (fun _=>False) base 21 (.slice (some ⟨q,0,none⟩) N N) N (gemL la lb M C N (partT C r0 c0 c1 m1 r c t))) (fun ii _=>c1 - (intOf ii).toNat)
   case atStart=>exact ⟨c0,Nat.le_refl _,hc.1,rfl,GR.out,BF.out,BT.out,BP.out,ON.out⟩
   case round =>
    obtain ⟨c,hc0,hc1,rfl,f0,f1,f2,f3,f4⟩:=hrel
    clear GR BF BT BP ON
    have GR:=zH f0
    have BF:=zH f1
    have BT:=zH f2
    have BP:=zH f3
    have ON:=zH f4
    clear f0 f1 f2 f3 f4
    have y1:=BT.out.cell 1
    simp only [gX] at y1
    by_cases hlc:c < c1
    ·have p2:(c:Int) < (c1:Int):=by omega
     obtain ⟨cm,hcm⟩:∃ x,c*M=x:=⟨_,rfl⟩
     have cmi:(c:Int)*(M:Int)=(cm:Int):=by rw [← hcm];simp
     have cmb:cm≤16384*16384:=by rw [← hcm];exact Nat.mul_le_mul (by omega) bM
     have cml:cm+M≤nb:=by rw [NB.out,← hcm,← Nat.succ_mul];exact Nat.mul_le_mul_right _ (by omega)
     have f1:IntKind.i64.wrap ((c:Int)*(M:Int))=(cm:Int):=by rw [cmi];exact IntWalk.i64_in _ (by omega)
     obtain ⟨ob,hob⟩:∃ x,cm+m0=x:=⟨_,rfl⟩
     have f2:IntKind.i64.wrap ((cm:Int)+(m0:Int))=(ob:Int):=(IntWalk.i64_in _ (by omega)).trans (by omega)
     obtain ⟨pb,hpb⟩:∃ x,ob+D=x:=⟨_,rfl⟩
     have hD:=HD.out
     have f3:IntKind.i64.wrap ((cm:Int)+(m1:Int))=(pb:Int):=(IntWalk.i64_in _ (by omega)).trans (by omega)
     obtain ⟨bz,oz,hBe,-,-,-,-⟩:=HB.out.int_at 0 (by omega)
     subst hBe
     have HOB:=zH (show c*M+m0=ob by rw [hcm,hob])
     have hlen:=HB.out.cap_le
     have ob1:pb≤nb:=by omega
     have ob2:pb≤cb:=by omega
     have ob3:ob≤pb:=by omega
     have ob4:pb - ob=D:=by omega
     have ob5:¬ cb=ob:=by omega
     obtain ⟨rc,hrc⟩:∃ x,r*C=x:=⟨_,rfl⟩
     have rci:(r:Int)*(C:Int)=(rc:Int):=by rw [← hrc];simp
     have rcl:rc+C≤N:=by rw [← NN.out,← hrc,← Nat.succ_mul];exact Nat.mul_le_mul_right _ (by omega)
     have f4:IntKind.i64.wrap ((r:Int)*(C:Int))=(rc:Int):=by rw [rci];exact IntWalk.i64_in _ (by omega)
     obtain ⟨ix,hix⟩:∃ x,rc+c=x:=⟨_,rfl⟩
     have f5:IntKind.i64.wrap ((rc:Int)+(c:Int))=(ix:Int):=(IntWalk.i64_in _ (by omega)).trans (by omega)
     have ixl:ix < N:=by omega
     have HIX:=zH (show r*C+c=ix by rw [hrc,hix])
     have hti:partT C r0 c0 c1 m1 r c t ix=m0:=by
      have dv:ix / C=r:=by rw [← HIX.out,Nat.mul_comm,Nat.mul_add_div (by omega),Nat.div_eq_of_lt (by omega),Nat.add_zero]
      have md:ix % C=c:=by rw [← HIX.out,Nat.mul_comm,Nat.mul_add_mod,Nat.mod_eq_of_lt (by omega)]
      unfold partT
      rw [dv,md,if_neg (by omega)]
      exact HT.out ix ixl (by omega) (by omega) (by omega) (by omega)
     obtain ⟨x0,u0,hx0,hu0,c5,c6,c7,-⟩:=ON.out.cell rfl ix ixl
     rw [gemL_at _ _ _ _ _ _ _ ixl,hti] at hx0
     obtain ⟨hu1,hu2⟩:=hu0
     simp only [List.cons.injEq,and_true] at hu1
     subst hu1
     have hx1:=Option.some.inj hx0
     rw [inK_i32] at hu2
     obtain ⟨S1,hS1⟩:∃ x,dotN ((la.drop lo).take D) ((lb.drop ob).take D) D=x:=⟨_,rfl⟩
     obtain ⟨S2,hS2⟩:∃ x,wrap32 S1=x:=⟨_,rfl⟩
     obtain ⟨res,hres⟩:∃ x,wrap32 (x0+S2)=x:=⟨_,rfl⟩
     have FR:=zH (show gemS la lb M C ix m1=res by
      rw [HD.out,← hres,← hS2,← hS1,← hx1,← HIX.out,← HLO.out,← HOB.out]
      exact (gemS_more la lb M C r c m0 D (by omega)).symm)
     have FS:=zH (gemL_set la lb M C N (partT C r0 c0 c1 m1 r c t) ix m1)
     have FT:=zH (partT_step C r0 c0 c1 m1 r c t hr0 hc0 hlc hc.2)
     have RE:=zH (show InK .i32 res by rw [inK_i32,← hres];exact wrap32_in _)
     have e6:IntKind.i32.wrap (x0+S2)=res:=by rw [IntKind.wrap_i32,← hres];unfold wrap32;rfl
     have OA:Sl (tInt .i16) wr (blo wr.heap.size) (some ⟨ba,oa,none⟩) na ca la:=(HA.out.away GR.out QM.out LA.out).more (fun b hb=>by have:=LA.out;have:=GR.out.size;unfold blo at *;omega)
     have OB:Sl (tInt .i8) wr (blo wr.heap.size) (some ⟨bz,oz,none⟩) nb cb lb:=(HB.out.away GR.out QM.out LA.out).more (fun b hb=>by have:=LA.out;have:=GR.out.size;unfold blo at *;omega)
     have SA:=OA.sub lo D lo (ca - lo) (by simp [tInt]) (by omega) (by omega) (by omega)
     have SB:=OB.sub ob D ob (cb - ob) (by simp [tInt]) (by omega) (by omega) (by omega)
     have DOT:=zH (fun wq (h:Below wr.drew.heap.size wr.drew wq)=>dot_any _ _ D _ _ _ _ wq ((Old.now SA).fut (((Below.refl _ _).drew).trans h)).all ((Old.now SB).fut (((Below.refl _ _).drew).trans h)).all (by omega))
     rw [hS1,hS2] at DOT
     clear hcm cmi hob hpb hD hrc rci hix hti hx0 hx1 hS1 hS2 hres OA OB SA SB
     go_wp2_with fail
     have z2:=BF.out.drew.cell 2
     have y2:=BT.out.drew.cell 2
     have s1:=BP.out.drew.cell 1
     have s2:=BP.out.drew.cell 2
     have s3:=BP.out.drew.cell 3
     have s4:=BP.out.drew.cell 4
     simp only [gX] at z2 y2 s1 s2 s3 s4
     refine wp_region_T (fun w'=>w'.cell? ⟨q,ix,none⟩=some (.int .i32 x0)∧w'.cell? ⟨gp,1,none⟩=some (.slice (some ⟨bz,oz,none⟩) nb cb)∧w'.cell? ⟨gp,2,none⟩=some (.int .i64 M)∧w'.cell? ⟨gp,3,none⟩=some (.int .i64 C)∧w'.cell? ⟨gp,4,none⟩=some (.slice (some ⟨q,0,none⟩) N N)∧w'.cell? ⟨w.heap.size,2,none⟩=some (.int .i64 m0)∧w'.cell? ⟨w1.heap.size,2,none⟩=some (.int .i64 m1)∧Below wr.drew.heap.size wr.drew w') 40 (by kernel_rfl) ?_ (fun hS=>?_)
     ·exact ⟨cell_later ((Below.refl _ _).drew) c5,s1,s2,s3,s4,z2,y2,Below.refl _ _⟩
     refine kT 0 rfl hS ?_
     try simp only [pX]
     refine kT 1 rfl hS ?_
     try simp only [pX]
     refine kT 2 rfl hS ?_
     try simp only [pX]
     refine kT 3 rfl hS ?_
     try simp only [pX]
     refine kT 4 rfl hS ?_
     try simp only [pX]
     refine kT 5 rfl hS ?_
     try simp only [pX]
     refine kT 6 rfl hS ?_
     try simp only [pX]
     refine kT 7 rfl hS ?_
     try simp only [pX]
     refine kT 8 rfl hS ?_
     try simp only [pX]
     refine kT 9 rfl hS ?_
     try simp only [pX]
     refine kT 10 rfl hS ?_
     try simp only [pX]
     refine kT 11 rfl hS ?_
     try simp only [pX]
     refine kT 12 rfl hS ?_
     try simp only [pX]
     refine kT 13 rfl hS ?_
     try simp only [pX]
     refine kT 14 rfl hS ?_
     try simp only [pX]
     refine kT 15 rfl hS ?_
     try simp only [pX]
     refine kT 16 rfl hS ?_
     try simp only [pX]
     refine kT 17 rfl hS ?_
     try simp only [pX]
     refine kT 18 rfl hS ?_
     try simp only [pX]
     refine kT 19 rfl hS ?_
     try simp only [pX]
     refine kT 20 rfl hS ?_
     try simp only [pX]
     refine kT 21 rfl hS ?_
     try simp only [pX]
     refine kT 22 rfl hS ?_
     try simp only [pX]
     refine kT 23 rfl hS ?_
     try simp only [pX]
     refine kT 24 rfl hS ?_
     try simp only [pX]
     refine kT 25 rfl hS ?_
     try simp only [pX]
     refine kT 26 rfl hS ?_
     try simp only [pX]
     refine kT 27 rfl hS ?_
     try simp only [pX]
     refine kT 28 rfl hS ?_
     try simp only [pX]
     refine kT 29 rfl hS ?_
     try simp only [pX]
     refine kT 30 rfl hS ?_
     try simp only [pX]
     refine kT 31 rfl hS ?_
     try simp only [pX]
     refine kT 32 rfl hS ?_
     try simp only [pX]
     refine kT 33 rfl hS ?_
     try simp only [pX]
     refine kT 34 rfl hS ?_
     try simp only [pX]
     refine kT 35 rfl hS ?_
     try simp only [pX]
     refine kT 36 rfl hS ?_
     try simp only [pX]
     refine kT 37 rfl hS ?_
     try simp only [pX]
     refine wpAnyT_one (i:=38) (by kernel_rfl) rfl rfl (fun K hK=>?_)
     go_simp
     refine (DOT.out _ hS.2.2.2.2.2.2.2).mono ?_;rintro e wm ⟨rfl,hb⟩
     refine hK.out _ _ ?_ (fun hS=>?_)
     ·exact ⟨(by first|exact cell_later hb hS.1|exact Blk.later hS.1 hb),(by first|exact cell_later hb hS.2.1|exact Blk.later hS.2.1 hb),(by first|exact cell_later hb hS.2.2.1|exact Blk.later hS.2.2.1 hb),(by first|exact cell_later hb hS.2.2.2.1|exact Blk.later hS.2.2.2.1 hb),(by first|exact cell_later hb hS.2.2.2.2.1|exact Blk.later hS.2.2.2.2.1 hb),(by first|exact cell_later hb hS.2.2.2.2.2.1|exact Blk.later hS.2.2.2.2.2.1 hb),(by first|exact cell_later hb hS.2.2.2.2.2.2.1|exact Blk.later hS.2.2.2.2.2.2.1 hb),(by first|exact below_later hb hS.2.2.2.2.2.2.2|exact grown_below hS.2.2.2.2.2.2.2 hb)⟩
     clear hK K
     try simp only [pX]
     refine kT 39 rfl hS ?_
     try simp only [pX]
     refine wpAnyT_tail _ _ rfl rfl (by kernel_rfl) ?_
     have kd:=(show Below wr.heap.size wr wr.drew from (Below.refl _ _).drew).trans hb
     have G2:=zH (grown_tr GR.out (below_grown (r:=some q) kd))
     have O2:=zH (ON.out.below kd (Nat.le_refl _) (fun _ h=>h.elim))
     have F2:=zH (BF.out.fut kd)
     have T2:=zH (BT.out.fut kd)
     have P2:=zH (BP.out.fut kd)
     clear hS hb kd c5 c6 c7 GR ON BF BT BP
     obtain ⟨x9,u9,-,-,c5,c6,c7,-⟩:=O2.out.cell rfl ix ixl
     go_wp2_with fail
     obtain ⟨o3,g3⟩:=O2.out.set1 rfl ix (.int .i32 res) res ⟨rfl,RE.out⟩ (fun _ h=>h.elim)
     have fs:=FS.out
     rw [FR.out] at fs
     rw [fs,← HIX.out,FT.out] at o3
     rw [HIX.out] at o3
     have qb:=QB.out
     have qt:=QT.out
     have pq:=PQ.out
     exact ⟨⟨c+1,by omega,by omega,by go_num,grown_tr G2.out g3,F2.out.rowR g3 (fun e=>by have:=Option.some.inj e;omega),T2.out.rowR g3 (fun e=>by have:=Option.some.inj e;omega),P2.out.rowR g3 (fun e=>by have:=Option.some.inj e;omega),o3⟩,by simp [intOf];omega⟩
    ·obtain rfl:c=c1:=by omega
     go_wp2_with fail
     exact ⟨⟨r+1,by omega,by omega,by go_num,GR.out,BF.out,BT.out,BP.out,by rw [← partT_row];exact ON.out⟩,by simp [intOf];omega⟩
  ·obtain rfl:r=r1:=by omega
   go_wp2_with fail
   ((try simp only [Exit.inBlock,Exit.then]);refine bodyPost_end (results_none rfl _ _ _) rfl ?_)
   exact ⟨rfl,ON.out,GR.out⟩
end Go.Proofs.YtjkmjpjknmghlaaGreat
namespace Go.Proofs.YtjkmjpjknmghlaaGreat
open Go.RowKit Go.ChangeShapes Go.WideShapes Fx
set_option maxRecDepth 100000
set_option maxHeartbeats 8000000
def gemU (M C r c m i:Nat):Nat:=if i / C < r then M else if i / C < r+8 then (if i % C < c then M else if i % C < c+8 then m else 0) else 0
theorem gemU_mid (M C R r c m r1 c1 m1 i:Nat) (hr:r1=min (r+8) R) (hc:c1=min (c+8) C) (hi:i / C < R) (hC:i % C < C):partT C r c c1 m1 r1 c (gemU M C r c m) i=gemU M C r c m1 i:=by
 unfold partT gemU
 by_cases a:i / C < r
 ·rw [if_neg (by omega),if_pos a,if_pos a]
 ·by_cases b:i / C < r+8
  ·rw [if_neg a,if_pos b,if_neg a,if_pos b]
   by_cases d:i % C < c
   ·rw [if_neg (by omega),if_pos d,if_pos d]
   ·by_cases e:i % C < c+8
    ·rw [if_pos (by omega),if_neg d,if_pos e]
    ·rw [if_neg (by omega),if_neg d,if_neg e,if_neg d,if_neg e]
  ·rw [if_neg (by omega),if_neg a,if_neg b,if_neg a,if_neg b]
theorem gemU_col (M C r c i:Nat):gemU M C r c M i=gemU M C r (c+8) 0 i:=by
 unfold gemU
 generalize i / C=a at *
 generalize i % C=b at *
 repeat' split
 all_goals omega
theorem gemU_row (M C r c i:Nat) (hC:i % C < c+8):gemU M C r c M i=gemU M C (r+8) 0 0 i:=by
 unfold gemU
 generalize i / C=a at *
 generalize i % C=b at *
 repeat' split
 all_goals omega
theorem gemU_all (M C r c i:Nat) (hr:i / C < r+8) (hC:i % C < c+8):gemU M C r c M i=M:=by
 unfold gemU
 generalize i / C=a at *
 generalize i % C=b at *
 repeat' split
 all_goals omega
theorem gemU_zero (M C:Nat):gemU M C 0 0 0=fun _=>0:=by
 funext i
 unfold gemU
 generalize i / C=a at *
 generalize i % C=b at *
 repeat' split
 all_goals omega
def gemG (R C M r c m:Nat):Nat:=(R - r)*((C+1)*(M+1))+(C - c)*(M+1)+(M - m)
theorem gemG_m {R C M r c m m1:Nat} (h:m < m1) (h1:m1≤M):gemG R C M r c m1 < gemG R C M r c m:=by unfold gemG;omega
theorem gemG_c {R C M r c m c1:Nat} (h:c < c1) (h1:c1≤C):gemG R C M r c1 0 < gemG R C M r c m:=by
 unfold gemG
 have:(C - c1+1)*(M+1)≤(C - c)*(M+1):=Nat.mul_le_mul_right _ (by omega)
 rw [Nat.succ_mul] at this
 omega
theorem gemG_r {R C M r c m r1:Nat} (h:r < r1) (h1:r1≤R):gemG R C M r1 0 0 < gemG R C M r c m:=by
 unfold gemG
 have:(R - r1+1)*((C+1)*(M+1))≤(R - r)*((C+1)*(M+1)):=Nat.mul_le_mul_right _ (by omega)
 rw [Nat.succ_mul,Nat.succ_mul C] at this
 rw [Nat.sub_zero,Nat.sub_zero,Nat.succ_mul C]
 omega
def cellN (w:World) (g i:Nat):Nat:=match w.cell? ⟨g,i,none⟩ with|some (.int _ z)=>z.toNat|_=>0
theorem cellN_of {w:World} {g i n:Nat} (h:w.cell? ⟨g,i,none⟩=some (.int .i64 n)):cellN w g i=n:=by unfold cellN;rw [h];rfl
def gemW (R C M g:Nat) (w:World):Nat:=gemG R C M (cellN w g 0) (cellN w g 1) (cellN w g 2)
theorem gemW_of {R C M g r c m:Nat} {w:World} {e:TypeId} (h:Blk w g e (sN r c m)):gemW R C M g w=gemG R C M r c m:=by
 unfold gemW
 rw [cellN_of (h.cell 0),cellN_of (h.cell 1),cellN_of (h.cell 2)]
theorem below_bound {R C i N:Nat} (h:R*C=N) (hi:i < N):i / C < R∧i % C < C:=by
 have hC:0 < C:=by
  rcases Nat.eq_zero_or_pos C with e|e
  ·subst e;omega
  ·exact e
 exact ⟨by rw [Nat.div_lt_iff_lt_mul hC,h];exact hi,Nat.mod_lt _ hC⟩
theorem mul_any (A:Option Addr) (na ca:Nat) (la:List Int) (B:Option Addr) (nb cb:Nat) (lb:List Int) (R M C N:Nat) (w:World)
  (ha:Sl (tInt .i16) w (blo w.heap.size) A na ca la) (hb:Sl (tInt .i8) w (blo w.heap.size) B nb cb lb) (hna:na=R*M) (hnb:nb=C*M) (hN:R*C=N) (bR:1≤R∧R≤16384) (bC:1≤C∧C≤16384) (bM:1≤M∧M≤16384) :
  Calls Tryz.prog 136 #[.slice A na ca,.slice B nb cb,.int .i64 R,.int .i64 M,.int .i64 C] w
   fun e w'=>∃ q,e=.returned (.slice (some ⟨q,0,none⟩) N N)∧Own (tInt .i32) w' (fun _=>False) w.heap.size 21 (.slice (some ⟨q,0,none⟩) N N) N ((List.range N).map fun i=>gemS la lb M C i M)∧Below w.heap.size w w':=by
 have HA:=zH ha
 have HB:=zH hb
 have NN:=zH hN
 have FR:=zH (Far.refl w)
 obtain ⟨w1,hw_w1,BL,k_w1⟩:=nB w (sN R M C) 3
 replace FR:=zH (FR.out.fut k_w1)
 clear k_w1
 have MY:=zH (gemMay_any (some ⟨w.heap.size,0,none⟩) 3 3 [(R:Int),(M:Int),(C:Int)] w1 (Sl.lit (cs:=(sN R M C)) [(R:Int),(M:Int),(C:Int)] BL.out.heap rfl (by intro x hx;simp at hx;rcases hx with rfl|rfl|rfl <;> rw [inK_i64] <;> omega) (by show _ < _;have:=BL.out.lt;omega) rfl rfl (by show 3≤maxLen;decide)) (by omega) (by intro i hi;match i,hi with|0,_=>simp;omega|1,_=>simp;omega|2,_=>simp;omega))
 have rmb:R*M≤16384*16384:=Nat.mul_le_mul bR.2 bM.2
 have cmb:C*M≤16384*16384:=Nat.mul_le_mul bC.2 bM.2
 have rcb:N≤16384*16384:=by rw [← hN];exact Nat.mul_le_mul bR.2 bC.2
 have e1:IntKind.i64.wrap ((R:Int)*(M:Int))=(na:Int):=by rw [hna,Int.natCast_mul];exact IntWalk.i64_in _ (by rw [← Int.natCast_mul];omega)
 have e2:IntKind.i64.wrap ((C:Int)*(M:Int))=(nb:Int):=by rw [hnb,Int.natCast_mul];exact IntWalk.i64_in _ (by rw [← Int.natCast_mul];omega)
 have e3:IntKind.i64.wrap ((R:Int)*(C:Int))=(N:Int):=by rw [← hN,Int.natCast_mul];exact IntWalk.i64_in _ (by rw [← Int.natCast_mul];omega)
 have NA:=zH hna
 have NB:=zH hnb
 clear ha hb hna hnb hN
 go_enter Tryz.func136,Tryz.ntmps136
 go_wp2_with fail
 go_step3
 go_wp2_with (first|(go_at_call 150;refine MY.out.mono ?_;rintro e w9 ⟨rfl,rfl⟩)|(at_make;refine wpList_make (t:=tInt .i32) (S:=fun _=>False) (base:=w.heap.size) rfl _ _ rfl ei_i32 .i64 .i64 _ _ N rfl rfl rfl rfl ?_ ?_ ?_ 0 ⟨rfl,by decide⟩ (fun _ h=>h.elim) ?_;rotate_right;intro w3 hown hg))
 rotate_left
 ·omega
 ·unfold maxLen;omega
 ·rw [← hw_w1];simp
 have kb:Below w1.heap.size w1 w3:=(Below.refl _ _).grown hg (Nat.le_refl _) (by simp)
 have ON:=zH hown
 have l13:=kb.size
 have l1:=FR.out.size
 have QB:=zH (show w.heap.size≤w1.heap.size∧w1.heap.size < w3.heap.size from ⟨l1,(hown.lt _ rfl).2⟩)
 replace FR:=zH (FR.out.fut kb)
 clear kb
 clear hown hg hw_w1 BL MY
 go_wp2_with fail
 obtain ⟨w4,hw_w4,BP,k_w4⟩:=nB w3 #[.slice A na ca,.slice B nb cb,.int .i64 M,.int .i64 C,.slice (some ⟨w1.heap.size,0,none⟩) N N] 196
 replace FR:=zH (FR.out.fut k_w4)
 clear k_w4
 replace ON:=zH (ON.out.below (show Below w3.heap.size w3 w4 by rw [← hw_w4];exact (Below.refl _ _).alloc (Nat.le_refl _) _) (Nat.le_refl _) (fun _ h=>h.elim))
 have l4:w4.heap.size=w3.heap.size+1:=by rw [← hw_w4];simp
 obtain ⟨w5,hw_w5,BT,k_w5⟩:=nB w4 (sN 0 0 0) 83
 replace FR:=zH (FR.out.fut k_w5)
 replace BP:=zH (BP.out.fut k_w5)
 clear k_w5
 replace ON:=zH (ON.out.below (show Below w4.heap.size w4 w5 by rw [← hw_w5];exact (Below.refl _ _).alloc (Nat.le_refl _) _) (Nat.le_refl _) (fun _ h=>h.elim))
 rw [hw_w4,← l4,hw_w5]
 have QB2:=zH (show w.heap.size≤w3.heap.size∧w3.heap.size < w4.heap.size from ⟨by omega,by omega⟩)
 clear hw_w4 hw_w5 l4 l13 l1
 replace ON:=zH (show Own (tInt .i32) w5 (fun _=>False) w.heap.size 21 (.slice (some ⟨w1.heap.size,0,none⟩) N N) N (gemL la lb M C N (gemU M C 0 0 0)) by rw [gemU_zero,gemL_none];exact ON.out)
 go_step3
 go_wp2_with fail
 clear e1 e2 e3
 go_loopw [] (fun wr=>∃ r c m:Nat,r < R∧c < C∧m < M∧Far w wr∧Blk wr w3.heap.size 196 #[.slice A na ca,.slice B nb cb,.int .i64 M,.int .i64 C,.slice (some ⟨w1.heap.size,0,none⟩) N N]∧Blk wr w4.heap.size 83 (sN r c m)∧Own (tInt .i32) wr (fun _=>False) w.heap.size 21 (.slice (some ⟨w1.heap.size,0,none⟩) N N) N (gemL la lb M C N (gemU M C r c m))) (gemW R C M w4.heap.size)
 case atStart=>exact ⟨0,0,0,bR.1,bC.1,bM.1,FR.out,BP.out,BT.out,ON.out⟩
 case round =>
  obtain ⟨r,c,m,hr,hc,hm,f0,f1,f2,f3⟩:=hrel
  clear FR BP BT ON
  have FR:=zH f0
  have BP:=zH f1
  have BT:=zH f2
  have ON:=zH f3
  clear f0 f1 f2 f3
  have BT0:=BT
  have x0:=BT.out.cell 0
  have x1:=BT.out.cell 1
  have x2:=BT.out.cell 2
  simp only [gX] at x0 x1 x2
  have g1:IntKind.i64.wrap ((r:Int)+8)=(r:Int)+8:=IntWalk.i64_in _ (by omega)
  have g2:IntKind.i64.wrap ((c:Int)+8)=(c:Int)+8:=IntWalk.i64_in _ (by omega)
  have g3:IntKind.i64.wrap ((m:Int)+8)=(m:Int)+8:=IntWalk.i64_in _ (by omega)
  obtain ⟨r1,hr1⟩:∃ x,min (r+8) R=x:=⟨_,rfl⟩
  obtain ⟨c1,hc1⟩:∃ x,min (c+8) C=x:=⟨_,rfl⟩
  obtain ⟨m1,hm1⟩:∃ x,min (m+8) M=x:=⟨_,rfl⟩
  have j1:(if (R:Int) < (r:Int)+8 then (R:Int) else (r:Int)+8)=(r1:Int):=by split <;> omega
  have j2:(if (C:Int) < (c:Int)+8 then (C:Int) else (c:Int)+8)=(c1:Int):=by split <;> omega
  have j3:(if (M:Int) < (m:Int)+8 then (M:Int) else (m:Int)+8)=(m1:Int):=by split <;> omega
  have HR:=zH hr1
  have HC:=zH hc1
  have HM:=zH hm1
  clear hr1 hc1 hm1
  obtain ⟨w6,hw_w6,BE,k_w6⟩:=nB wr (sN r1 c1 m1) 83
  replace FR:=zH (FR.out.fut k_w6)
  replace BP:=zH (BP.out.fut k_w6)
  replace BT:=zH (BT.out.fut k_w6)
  clear k_w6
  have O6:=zH (ON.out.below (show Below wr.heap.size wr w6 by rw [← hw_w6];exact (Below.refl _ _).alloc (Nat.le_refl _) _) (Nat.le_refl _) (fun _ h=>h.elim))
  have PA:=zH (part_any w3.heap.size w1.heap.size w.heap.size w.heap.size R M C N r c m r1 c1 m1 A na ca la B nb cb lb (gemU M C r c m) w6 ((Old.now HA.out).fut FR.out.out).out ((Old.now HB.out).fut FR.out.out).out (Nat.le_refl _) NA.out NB.out NN.out (by have:=HR.out;omega) (by have:=HC.out;omega) (by have:=HM.out;omega) bR.2 bC.2 bM.2 BP.out (by have:=QB.out;omega) O6.out (fun i hi h1 h2 h3 h4=>by unfold gemU;have:=HR.out;have:=HC.out;rw [if_neg (by omega),if_pos (by omega),if_neg (by omega),if_pos (by omega)]))
  rw [gemL_ext (fun i hi=>by obtain ⟨z1,z2⟩:=below_bound NN.out hi;exact gemU_mid M C R r c m r1 c1 m1 i HR.out.symm HC.out.symm z1 z2)] at PA
  go_wp2_with (first|(refine lB 83 (.tmp 12) w4.heap.size BT.out Tryz.underlying83 ?_)|(refine lB 83 (.tmp 13) wr.heap.size BE.out Tryz.underlying83 ?_))
  refine (PA.out).mono ?_
  rintro e w7 ⟨rfl,own7,g7⟩
  have O7:=zH own7
  have qb:=QB.out
  have qb2:=QB2.out
  have F7:=zH (FR.out.row g7 (fun k h=>by have:=Option.some.inj h;omega))
  have P7:=zH (BP.out.rowR g7 (fun e=>by have:=Option.some.inj e;omega))
  have T7:=zH (BT.out.rowR g7 (fun e=>by have:=Option.some.inj e;omega))
  have lq:w1.heap.size < wr.heap.size:=(ON.out.lt _ rfl).2
  have MW:=zH (gemW_of (R:=R) (C:=C) (M:=M) BT0.out)
  have E7:=zH (BE.out.rowR g7 (fun e=>by have:=Option.some.inj e;omega))
  have x0:=T7.out.cell 0
  have y0:=E7.out.cell 0
  have y1:=E7.out.cell 1
  have y2:=E7.out.cell 2
  simp only [gX] at x0 y0 y1 y2
  clear own7 g7 hw_w6 j1 j2 j3 qb qb2 lq FR BP BT BT0 ON O6 PA BE
  by_cases a1:m1 < M
  ·have b1:(m1:Int) < (M:Int):=by omega
   go_wp2_with (refine wpList_store_one rfl 3 (.tmp 72) (.tmp 71) rfl w4.heap.size 2 (.int .i64 m1) rfl rfl rfl rfl _ (sN r c m) (sN r c m1) T7.out (by simp) (by kernel_rfl) rfl ?_;intro w8 B8 g8)
   have F8:=F7.out.away g8 (by have:=QB2.out;omega)
   have P8:=P7.out.rowR g8 (fun e=>by have:=Option.some.inj e;have:=QB2.out;omega)
   have O8:=O7.out.flat g8 (.inr (by simp [Value.ownBlock];have:=QB2.out;have:=QB.out;omega)) (fun _ h=>h)
   refine ⟨?_,?_⟩
   ·(repeat apply Exists.intro)
    refine ⟨?_,rfl⟩
    exact ⟨r,c,m1,hr,hc,a1,F8,P8,B8,O8⟩
   ·rw [gemW_of (r:=r) (c:=c) (m:=m1) B8,MW.out]
    exact gemG_m (by have:=HM.out;omega) (by omega)
  ·obtain rfl:m1=M:=by have:=HM.out;omega
   by_cases a2:c1 < C
   ·have b2:(c1:Int) < (C:Int):=by omega
    have hc8:c1=c+8:=by have:=HC.out;omega
    rw [gemL_ext (fun i _=>gemU_col m1 C r c i),← hc8] at O7
    have HC8:=zH hc8
    clear hc8
    go_wp2_with (refine sB 83 (.tmp 12) (.tmp 82) w4.heap.size (sN r c1 0) T7.out ?_;intro w8 B8 g8)
    have F8:=F7.out.away g8 (by have:=QB2.out;omega)
    have P8:=P7.out.rowR g8 (fun e=>by have:=Option.some.inj e;have:=QB2.out;omega)
    have O8:=O7.out.flat g8 (.inr (by simp [Value.ownBlock];have:=QB2.out;have:=QB.out;omega)) (fun _ h=>h)
    refine ⟨?_,?_⟩
    ·(repeat apply Exists.intro)
     refine ⟨?_,rfl⟩
     exact ⟨r,c1,0,hr,a2,by omega,F8,P8,B8,O8⟩
    ·rw [gemW_of (r:=r) (c:=c1) (m:=0) B8,MW.out]
     exact gemG_c (by have:=HC8.out;omega) (by omega)
   ·obtain rfl:c1=C:=by have:=HC.out;omega
    by_cases a3:r1 < R
    ·have b3:(r1:Int) < (R:Int):=by omega
     have hr8:r1=r+8:=by have:=HR.out;omega
     rw [gemL_ext (fun i hi=>gemU_row m1 c1 r c i (by have:=(below_bound NN.out hi).2;have:=HC.out;omega)),← hr8] at O7
     have HR8:=zH hr8
     clear hr8
     go_wp2_with (refine sB 83 (.tmp 12) (.tmp 90) w4.heap.size (sN r1 0 0) T7.out ?_;intro w8 B8 g8)
     have F8:=F7.out.away g8 (by have:=QB2.out;omega)
     have P8:=P7.out.rowR g8 (fun e=>by have:=Option.some.inj e;have:=QB2.out;omega)
     have O8:=O7.out.flat g8 (.inr (by simp [Value.ownBlock];have:=QB2.out;have:=QB.out;omega)) (fun _ h=>h)
     refine ⟨?_,?_⟩
     ·(repeat apply Exists.intro)
      refine ⟨?_,rfl⟩
      exact ⟨r1,0,0,a3,by omega,by omega,F8,P8,B8,O8⟩
     ·rw [gemW_of (r:=r1) (c:=0) (m:=0) B8,MW.out]
      exact gemG_r (by have:=HR8.out;omega) (by omega)
    ·obtain rfl:r1=R:=by have:=HR.out;omega
     rw [gemL_ext (fun i hi=>gemU_all m1 c1 r c i (by have:=(below_bound NN.out hi).1;have:=HR.out;omega) (by have:=(below_bound NN.out hi).2;have:=HC.out;omega))] at O7
     have p4:=P7.out.cell 4
     simp only [gX] at p4
     go_wp2_with fail
     (try rw [Exit.noGoto_ret])
     go_ret
     exact ⟨_,rfl,O7.out,F7.out.out⟩
end Go.Proofs.YtjkmjpjknmghlaaGreat
