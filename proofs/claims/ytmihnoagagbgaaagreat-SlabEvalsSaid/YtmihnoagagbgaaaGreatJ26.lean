/-
  Windows as rows (layer 12): slide.wide, slide.place.
  A bias is added, channel by channel (layer 14: lower.biased's function).
  Windows as rows (layer 12): patch.Of's function.
  Windows as rows (layer 12): slide.each, by which patch.Of's rows are filled.
  Windows as rows (layer 12): patch.over where the places are right.
  Rows multiplied (layer 13): gemm.may where all is within bounds.
  A slice of one number, many times (slices.Repeat).
  The shape that a node makes (layers 18, 25): kinds.plainShape.
-/
import Derived.Test.YtmihnoagagbgaaaGreatJ19
set_option linter.unusedVariables false
set_option linter.unusedSimpArgs false
set_option maxRecDepth 100000
set_option maxHeartbeats 16000000
namespace Go.Proofs.YtmihnoagagbgaaaGreat
open Go.RowKit Go.ChangeShapes Go.WideShapes Fx Tryz
set_option maxRecDepth 100000
set_option maxHeartbeats 16000000
theorem mX (H V C:Nat) (d:af) (W:QA) (nw cw:Nat) (B:QA) (nb cb:Nat) (Ho Wo mo:Nat) (K:Nat) (w:World) (hk:d.k=K) (k1:K≤5) (hC:C≤1024) :
  Calls prog 172 #[.agg #[.int .i64 H,.int .i64 V,.int .i64 C,.int .i64 d.kind,.int .i64 d.a,.int .i64 d.b,.int .i64 d.k,.int .i64 d.s,.int .i64 d.p,.int .i64 d.out,.int .i8 d.za,.int .i8 d.zb,.slice W nw cw,.slice B nb cb,.int .i32 d.qm,.int .i64 d.qs,.int .i8 d.qz,.int .i32 d.rm,.int .i64 d.rs,.int .i8 d.rz,.int .i8 d.lo,.int .i8 d.hi,.int .i64 Ho,.int .i64 Wo,.int .i64 mo]] w fun e w'=>e=.returned (.int .i64 ((K*K*C:Nat):Int))∧Below w w w':=by
 have FR:=zW w
 obtain ⟨w1,yw1,BS,FR⟩:=nF FR #[.int .i64 H,.int .i64 V,.int .i64 C,.int .i64 d.kind,.int .i64 d.a,.int .i64 d.b,.int .i64 d.k,.int .i64 d.s,.int .i64 d.p,.int .i64 d.out,.int .i8 d.za,.int .i8 d.zb,.slice W nw cw,.slice B nb cb,.int .i32 d.qm,.int .i64 d.qs,.int .i8 d.qz,.int .i32 d.rm,.int .i64 d.rs,.int .i8 d.rz,.int .i8 d.lo,.int .i8 d.hi,.int .i64 Ho,.int .i64 Wo,.int .i64 mo] 219
 obtain ⟨c2,c6⟩:=uc2 BS 2 6
 simp only [gX] at c2 c6
 rw [hk] at c6
 obtain ⟨q1,e1⟩:∃ m,K*K=m:=⟨_,rfl⟩
 have j1:(K:Int)*(K:Int)=(q1:Int):=by rw [← e1];simp
 have b1:q1≤25:=by rw [← e1];exact Nat.mul_le_mul k1 k1
 rw [e1]
 obtain ⟨q2,e2⟩:∃ m,q1*C=m:=⟨_,rfl⟩
 have j2:(q1:Int)*(C:Int)=(q2:Int):=by rw [← e2];simp
 have b2:q2≤25*1024:=by rw [← e2];exact Nat.mul_le_mul b1 hC
 rw [e2]
 clear e1 e2 hk
 go_in
 go_wp2
 go_ret
 exact ⟨rfl,FR.u⟩
theorem rk (H V C:Nat) (d:af) (W:QA) (nw cw:Nat) (B:QA) (nb cb:Nat) (Ho Wo mo:Nat) (K S P i k:Nat) (w:World) (hk:d.k=K) (hs:d.s=S) (hp:d.p=P) (k1:1≤K∧K≤5) (s1:S≤4) (p1:P≤4)
  (h1:1≤H∧H≤16) (v1:1≤V∧V≤16) (c1:1≤C∧C≤1024) (he:decide (0 < ab H V C)=true) (w1':1≤Wo∧Wo≤16) (hi:i≤1024) (hkk:k≤25600) :
  Calls prog 174 #[.agg #[.int .i64 H,.int .i64 V,.int .i64 C,.int .i64 d.kind,.int .i64 d.a,.int .i64 d.b,.int .i64 d.k,.int .i64 d.s,.int .i64 d.p,.int .i64 d.out,.int .i8 d.za,.int .i8 d.zb,.slice W nw cw,.slice B nb cb,.int .i32 d.qm,.int .i64 d.qs,.int .i8 d.qz,.int .i32 d.rm,.int .i64 d.rs,.int .i8 d.rz,.int .i8 d.lo,.int .i8 d.hi,.int .i64 Ho,.int .i64 Wo,.int .i64 mo],.int .i64 i,.int .i64 k] w fun e w' =>
   e=.returned (.tuple #[.int .i64 (if aK H V ((i / Wo*S+k / C / K:Nat) - (P:Int)) ((i % Wo*S+k / C % K:Nat) - (P:Int)) then (cH V C ((i / Wo*S+k / C / K:Nat) - (P:Int)) ((i % Wo*S+k / C % K:Nat) - (P:Int)) (k % C):Int) else 0),.bool (decide (aK H V ((i / Wo*S+k / C / K:Nat) - (P:Int)) ((i % Wo*S+k / C % K:Nat) - (P:Int))))])∧Below w w w':=by
 have FR:=zW w
 obtain ⟨w1,yw1,BS,FR⟩:=nF FR #[.int .i64 H,.int .i64 V,.int .i64 C,.int .i64 d.kind,.int .i64 d.a,.int .i64 d.b,.int .i64 d.k,.int .i64 d.s,.int .i64 d.p,.int .i64 d.out,.int .i8 d.za,.int .i8 d.zb,.slice W nw cw,.slice B nb cb,.int .i32 d.qm,.int .i64 d.qs,.int .i8 d.qz,.int .i32 d.rm,.int .i64 d.rs,.int .i8 d.rz,.int .i8 d.lo,.int .i8 d.hi,.int .i64 Ho,.int .i64 Wo,.int .i64 mo] 219
 have HK:=zH hk
 have HS:=zH hs
 have HP:=zH hp
 obtain ⟨kc,hkc⟩:∃ m,k % C=m:=⟨_,rfl⟩
 obtain ⟨ka,hka⟩:∃ m,k / C=m:=⟨_,rfl⟩
 obtain ⟨iy,hiy⟩:∃ m,i / Wo=m:=⟨_,rfl⟩
 obtain ⟨ix,hix⟩:∃ m,i % Wo=m:=⟨_,rfl⟩
 have kcl:kc < C:=by rw [← hkc];exact Nat.mod_lt _ oM
 have kab:ka≤25600:=by rw [← hka];exact lT (Nat.div_le_self _ _) hkk
 have iyb:iy≤1024:=by rw [← hiy];exact lT (Nat.div_le_self _ _) hi
 have ixb:ix≤16:=by rw [← hix];exact lT (Nat.le_of_lt (Nat.mod_lt _ oM)) w1'.2
 rw [hkc,hka,hiy,hix]
 obtain ⟨ay,hay⟩:∃ m,ka / K=m:=⟨_,rfl⟩
 obtain ⟨ax,hax⟩:∃ m,ka % K=m:=⟨_,rfl⟩
 have ayb:ay≤25600:=by rw [← hay];exact lT (Nat.div_le_self _ _) kab
 have axb:ax≤5:=by rw [← hax];exact lT (Nat.le_of_lt (Nat.mod_lt _ oM)) k1.2
 rw [hay,hax]
 obtain ⟨ys,hys⟩:∃ m,iy*S=m:=⟨_,rfl⟩
 obtain ⟨xs,hxs⟩:∃ m,ix*S=m:=⟨_,rfl⟩
 have ysb:ys≤4096:=by rw [← hys];exact Nat.mul_le_mul iyb s1
 have xsb:xs≤64:=by rw [← hxs];exact Nat.mul_le_mul ixb s1
 have ysi:(iy:Int)*(S:Int)=(ys:Int):=by rw [← hys];simp
 have xsi:(ix:Int)*(S:Int)=(xs:Int):=by rw [← hxs];simp
 rw [hys,hxs]
 obtain ⟨yy,hyy⟩:∃ m:Int,((ys+ay:Nat):Int) - (P:Int)=m:=⟨_,rfl⟩
 obtain ⟨xx,hxx⟩:∃ m:Int,((xs+ax:Nat):Int) - (P:Int)=m:=⟨_,rfl⟩
 rw [hyy,hxx]
 have d1:(k:Int).tmod (C:Int)=(kc:Int):=by rw [← hkc,Int.tmod_eq_emod_of_nonneg oM];simp
 have d2:(k:Int).tdiv (C:Int)=(ka:Int):=by rw [← hka,Int.tdiv_eq_ediv_of_nonneg oM];simp
 have d3:(i:Int).tdiv (Wo:Int)=(iy:Int):=by rw [← hiy,Int.tdiv_eq_ediv_of_nonneg oM];simp
 have d4:(i:Int).tmod (Wo:Int)=(ix:Int):=by rw [← hix,Int.tmod_eq_emod_of_nonneg oM];simp
 have d5:(ka:Int).tdiv (K:Int)=(ay:Int):=by rw [← hay,Int.tdiv_eq_ediv_of_nonneg oM];simp
 have d6:(ka:Int).tmod (K:Int)=(ax:Int):=by rw [← hax,Int.tmod_eq_emod_of_nonneg oM];simp
 have z1:¬ C=0:=oM
 have z2:¬ Wo=0:=oM
 have z3:¬ K=0:=oM
 have g1:IntKind.i64.wrap (kc:Int)=(kc:Int):=wJ
 have g2:IntKind.i64.wrap (ka:Int)=(ka:Int):=wJ
 have g3:IntKind.i64.wrap (iy:Int)=(iy:Int):=wJ
 have g4:IntKind.i64.wrap (ix:Int)=(ix:Int):=wJ
 have g5:IntKind.i64.wrap (ay:Int)=(ay:Int):=wJ
 have g6:IntKind.i64.wrap (ax:Int)=(ax:Int):=wJ
 have g7:IntKind.i64.wrap ((iy:Int)*(S:Int))=(ys:Int):=by rw [ysi];exact wJ
 have g8:IntKind.i64.wrap ((ix:Int)*(S:Int))=(xs:Int):=by rw [xsi];exact wJ
 have g9:IntKind.i64.wrap ((ys:Int)+(ay:Int))=(ys:Int)+(ay:Int):=wJ
 have g10:IntKind.i64.wrap ((xs:Int)+(ax:Int))=(xs:Int)+(ax:Int):=wJ
 have g11:IntKind.i64.wrap ((ys:Int)+(ay:Int) - (P:Int))=yy:=(wJ).trans (by rw [← hyy];simp)
 have g12:IntKind.i64.wrap ((xs:Int)+(ax:Int) - (P:Int))=xx:=(wJ).trans (by rw [← hxx];simp)
 have IX:=zH (fun wq=>dt H V C yy xx kc wq h1 v1 c1 he kcl)
 obtain ⟨ri,hri⟩:∃ r:Int,(if aK H V yy xx then (cH V C yy xx kc:Int) else 0)=r:=⟨_,rfl⟩
 obtain ⟨rb,hrb⟩:∃ r,decide (aK H V yy xx)=r:=⟨_,rfl⟩
 rw [hri,hrb] at IX ⊢
 clear hri hrb hkc hka hiy hix hay hax hys hxs ysi xsi hyy hxx hk hs hp he
 have c2:=BS.o.cell 2
 simp only [gX] at c2
 go_in
 go_wp2_with fail
 go_quiet (fail)
 obtain ⟨wa2,hwa⟩:∃ m,w1.drewN nq=m:=⟨_,rfl⟩
 have kd:Below w1 w1 wa2:=by rw [← hwa];exact am (qB _ _) _
 obtain ⟨FR,BS⟩:=uz2 kd FR BS
 clear c2 yw1
 obtain ⟨c6,c7,c8,c23⟩:=uc4 BS 6 7 8 23
 simp only [gX] at c6 c7 c8 c23
 rw [HK.o] at c6
 rw [HS.o] at c7
 rw [HP.o] at c8
 rw [hwa]
 clear kd hwa
 go_wp2_with fail
 go_quiet (fail)
 obtain ⟨wa3,hwa⟩:∃ m,wa2.drewN nq=m:=⟨_,rfl⟩
 have kd:Below wa2 wa2 wa3:=by rw [← hwa];exact am (qB _ _) _
 obtain ⟨FR,BS⟩:=uz2 kd FR BS
 clear c6 c7 c8 c23
 obtain ⟨c6,c7,c8,c23⟩:=uc4 BS 6 7 8 23
 simp only [gX] at c6 c7 c8 c23
 rw [HK.o] at c6
 rw [HS.o] at c7
 rw [HP.o] at c8
 rw [hwa]
 clear kd hwa
 go_wp2_with fail
 go_quiet (fail)
 obtain ⟨wa4,hwa⟩:∃ m,wa3.drewN nq=m:=⟨_,rfl⟩
 have kd:Below wa3 wa3 wa4:=by rw [← hwa];exact am (qB _ _) _
 obtain ⟨FR,BS⟩:=uz2 kd FR BS
 rw [hwa]
 clear kd hwa c6 c7 c8 c23
 go_wp2_with (first|(refine lQJ 24 (sN H V C) BS.o ?_)|(go_at_call 149;refine qM (IX.o _) fun w5 hb=>?_))
 go_ret2
 exact ⟨rfl,(FR.o.fut hb).out⟩
theorem cJ {w w1 w2:World} {r:Option Nat} (h:w.grownBy w1 r) (h':w1.grownBy w2 r):w.grownBy w2 r :=
 ⟨h'.os.trans h.os,h'.tape.trans h.tape,h'.output.trans h.output,lT h.size h'.size,fun k hk hne=>(h'.block k (Nat.lt_of_lt_of_le hk h.size) hne).trans (h.block k hk hne)⟩
theorem jq (w:World) (r:Option Nat):w.grownBy w.drew r:=⟨rfl,rfl,rfl,lR _,fun _ _ _=>rfl⟩
theorem jr (w:World) (r:Option Nat):w.grownBy w r:=⟨rfl,rfl,rfl,lR _,fun _ _ _=>rfl⟩
def stM (f g:Nat → Int) (n k:Nat):List Int:=(List.range n).map fun i=>if i < k then f i else g i
theorem sS (f g:Nat → Int) (n:Nat):stM f g n 0=(List.range n).map g:=by unfold stM;apply List.map_congr_left;intro i _;rw [if_neg oM]
theorem tv (f g:Nat → Int) (n:Nat):stM f g n n=(List.range n).map f:=by unfold stM;apply List.map_congr_left;intro i hi;rw [if_pos (List.mem_range.1 hi)]
theorem ub (f g:Nat → Int) (n k:Nat) (h:k < n):(stM f g n k)[k]?=some (g k):=by
 unfold stM
 rw [List.getElem?_map,List.getElem?_range h]
 simp
theorem tw (f g:Nat → Int) (n k:Nat):(stM f g n k).set k (f k)=stM f g n (k+1):=by
 unfold stM
 apply List.ext_getElem sM
 intro i h1 h2
 rw [List.getElem_set]
 simp only [List.getElem_map,List.getElem_range]
 by_cases e:k=i
 ·subst e;rw [if_pos rfl,if_pos oM]
 ·rw [if_neg e]
  by_cases h:i < k
  ·rw [if_pos h,if_pos oM]
  ·rw [if_neg h,if_neg oM]
theorem pB {l:List Int} {n:Nat} (h:l.length=n):(List.range n).map (fun i=>l.getD i 0)=l:=by
 subst h
 apply List.ext_getElem sM
 intro i h1 h2
 simp at h1
 simp [gD,List.getElem?_eq_getElem h1]
theorem o9 (p:Addr) (B:QA) (nb cb:Nat) (bl:List Int) (m base q N:Nat) (l:List Int) (w:World) (hb:Sl (aa .i32) w (blo m) B nb cb bl) (hm:m≤base) (hp:w.cell? p=some (.slice B nb cb)) (hpq:p.block ≠ q)
  (hown:Own (aa .i32) w (fun _=>False) base 21 (.slice (some ⟨q,0,none⟩) N N) N l) (hnb:1≤nb) (hN:N≤65536) :
  Calls prog 178 #[.slice (some ⟨q,0,none⟩) N N,.pointer (some p)] w fun e w'=>e=.returned (.tuple #[])∧Own (aa .i32) w' (fun _=>False) base 21 (.slice (some ⟨q,0,none⟩) N N) N ((List.range N).map fun i=>wrap32 (l.getD i 0+bl.getD (i % nb) 0))∧w.grownBy w' (some q):=by
 have HB:=zH hb
 have HP:=zH hp
 have mx:=lT hb.cap_le hb.max_le
 have mx2:nb≤9223372036854775807:=mx
 have lq:=hown.lt _ rfl
 have PQ:=zH hpq
 have hlen:=hown.length dM
 have ON:=zH (show Own (aa .i32) w (fun _=>False) base 21 (.slice (some ⟨q,0,none⟩) N N) N (stM (fun i=>wrap32 (l.getD i 0+bl.getD (i % nb) 0)) (fun i=>l.getD i 0) N 0) by rw [sS,pB hlen];exact hown)
 have nz:¬ nb=0:=oM
 have nz2:(nb:Int) ≠ 0:=oM
 clear hb hp hown hlen hpq mx
 go_in
 go_wp2
 go_loopw [6] (fun ii wr=>∃ k:Nat,k≤N∧ii=.int .i64 k∧w.grownBy wr (some q)∧Own (aa .i32) wr (fun _=>False) base 21 (.slice (some ⟨q,0,none⟩) N N) N (stM (fun i=>wrap32 (l.getD i 0+bl.getD (i % nb) 0)) (fun i=>l.getD i 0) N k)) (fun ii _=>N - (intOf ii).toNat)
 case atStart=>exact ⟨0,zl _,rfl,jr _ _,ON.o⟩
 case round =>
  obtain ⟨k,hk,rfl,hg,hon⟩:=hrel
  clear ON
  have GR:=zH hg
  have ON:=zH hon
  clear hg hon
  by_cases hlt:k < N
  ·have p1:(k:Int) < (N:Int):=oM
   obtain ⟨kb,hkb⟩:∃ x,k % nb=x:=⟨_,rfl⟩
   have hkl:kb < nb:=by rw [← hkb];exact Nat.mod_lt _ hnb
   have d1:(k:Int).tmod (nb:Int)=(kb:Int):=by rw [← hkb,Int.tmod_eq_emod_of_nonneg oM];simp
   have d2:(k:Int) % (nb:Int)=(kb:Int):=by rw [← hkb];simp
   have g1:IntKind.i64.wrap (kb:Int)=(kb:Int):=wJ
   have hp:wr.cell? p=some (.slice B nb cb):=bF GR.o HP.o (fun e=>PQ.o (sI e))
   obtain ⟨bz,oz,rfl,hz1,-,cy,iy⟩:=HB.o.int_at kb hkl
   have cy':wr.cell? ⟨bz,oz+kb,none⟩=some (.int .i32 (bl.getD kb 0)):=bF GR.o cy (fun e=>by have:=sI e;simp only at this;unfold blo at hz1;omega)
   obtain ⟨x0,u0,hx0,hu0,c5,c6,c7,-⟩:=ON.o.cell rfl k hlt
   rw [ub _ _ _ _ hlt] at hx0
   obtain ⟨hu1,hu2⟩:=hu0
   simp only [List.cons.injEq,and_true] at hu1
   subst hu1
   have hx1:=sI hx0
   have FS:=zH (tw (fun i=>wrap32 (l.getD i 0+bl.getD (i % nb) 0)) (fun i=>l.getD i 0) N k)
   obtain ⟨y,hy⟩:∃ x,bl.getD kb 0=x:=⟨_,rfl⟩
   rw [hy] at cy'
   obtain ⟨res,hres⟩:∃ r,wrap32 (x0+y)=r:=⟨_,rfl⟩
   have e6:IntKind.i32.wrap (x0+y)=res:=by rw [IntKind.wrap_i32,← hres];unfold wrap32;rfl
   have FE:=zH (show wrap32 (l.getD k 0+bl.getD (k % nb) 0)=res by rw [hkb,hy,hx1,hres])
   have RE:=zH (show InK .i32 res by rw [bE,← hres];exact cV _)
   clear hkb hy hres hx0 hx1 cy hu2
   go_wp2_with fail
   go_still_tail 12,kM
   change wpList _ _ _ _ _ wr.drew
   have G2:=zH (cJ GR.o (jq wr (some q)))
   have O2:=zH (ON.o.heap (w':=wr.drew) rfl)
   clear c5 c6 c7 cy' hp ON GR
   generalize wr.drew=wy at *
   obtain ⟨x9,u9,-,-,c5,c6,c7,-⟩:=O2.o.cell rfl k hlt
   go_wp2_with fail
   obtain ⟨o3,g3⟩:=O2.o.set1 rfl k (.int .i32 res) res ⟨rfl,RE.o⟩ (fun _ h=>h.elim)
   have fs:=FS.o
   simp only [FE.out] at fs
   rw [fs] at o3
   exact ⟨⟨k+1,by omega,by go_num,cJ G2.o g3,o3⟩,by simp [intOf];omega⟩
  ·obtain rfl:k=N:=oM
   go_wp2_with fail
   ((try simp only [Exit.inBlock,Exit.then]);refine bodyPost_end (results_none rfl _ _ _) rfl ?_)
   have e:=ON.o
   rw [tv] at e
   exact ⟨rfl,e,GR.o⟩
theorem iQ (A:QA) (n cap:Nat) (l:List Int) (d:af) (W:QA) (nw cw:Nat) (B:QA) (nb cb:Nat) (u0 u1 u2:Value) (gt gn gr q N m base:Nat) (L:List Int) (h v c many wide:Int) (row:Nat) (at_:Int) (ok:Bool) (w:World)
  (hl:Sl (aa .i8) w (blo m) A n cap l) (hz:InK .i8 d.za)
  (bt:Blk w gt 27 (tN h v c A n cap)) (bn:Blk w gn 42 (nD d W nw cw B nb cb)) (br:Blk w gr 197 #[.int .i64 many,.int .i64 wide,.slice (some ⟨q,0,none⟩) N N])
  (hown:Own (aa .i16) w (fun _=>False) base 224 (.slice (some ⟨q,0,none⟩) N N) N L) (hrow:row < N) (hat:ok=true → ∃ i:Nat,at_=i∧i < n) (hN:N≤100000000) (hn:n≤1024) :
  Calls prog 175 #[.int .i64 row,.int .i64 at_,.bool ok,.pointer (some ⟨gt,0,none⟩),.pointer (some ⟨gn,0,none⟩),.pointer (some ⟨gr,0,none⟩)] w fun e w'=>e=.returned (.tuple #[])∧Own (aa .i16) w' (fun _=>False) base 224 (.slice (some ⟨q,0,none⟩) N N) N (if ok=true then L.set row (l.getD at_.toNat 0 - d.za) else L)∧w.grownBy w' (some q):=by
 cases ok with
 | false =>
  go_in
  go_wp2_with fail
  ((try simp only [Exit.inBlock,Exit.then]);refine bodyPost_end (results_none rfl _ _ _) rfl ?_)
  exact ⟨rfl,hown,jr _ _⟩
 | true =>
  obtain ⟨i,rfl,hi⟩:=hat rfl
  rw [if_pos rfl,Int.toNat_natCast]
  obtain ⟨bz,oz,rfl,-,-,cx,ix⟩:=hl.int_at i hi
  obtain ⟨x,hx⟩:∃ x,l.getD i 0=x:=⟨_,rfl⟩
  rw [hx] at cx ix ⊢
  obtain ⟨z,hzz⟩:∃ z,d.za=z:=⟨_,rfl⟩
  have n7:=bn.cell 7
  have t3:=bt.cell 3
  have r2:=br.cell 2
  simp only [gX] at n7 t3 r2
  rw [hzz] at n7 hz ⊢
  rw [aT] at ix hz
  obtain ⟨i1,i2⟩:=ix
  obtain ⟨z1,z2⟩:=hz
  have g6:IntKind.i16.wrap x=x:=by rw [fh];omega
  have g7:IntKind.i16.wrap z=z:=by rw [fh];omega
  have g8:IntKind.i16.wrap (x - z)=x - z:=by rw [fh];omega
  obtain ⟨x0,u0',-,-,c5,c6,c7,-⟩:=hown.cell rfl row hrow
  have ON:=zH hown
  clear hx hzz hown bt bn br hl hat
  go_in
  go_wp2_with fail
  go_still_tail 13,kM
  change wpList _ _ _ _ _ w.drew
  have O2:=zH (ON.o.heap (w':=w.drew) rfl)
  have G2:=zH (jq w (some q))
  clear c5 c6 c7 cx n7 t3 r2 ON
  generalize w.drew=wy at *
  obtain ⟨x9,u9,-,-,c5,c6,c7,-⟩:=O2.o.cell rfl row hrow
  go_wp2_with fail
  ((try simp only [Exit.inBlock,Exit.then]);refine bodyPost_end (results_none rfl _ _ _) rfl ?_)
  obtain ⟨o3,g3⟩:=O2.o.set1 rfl row (.int .i16 (x - z)) (x - z) ⟨rfl,by simp only [InK,IntKind.min,IntKind.max,IntKind.signed,IntKind.bits];simp;omega⟩ (fun _ h=>h.elim)
  exact ⟨rfl,o3,cJ G2.o g3⟩
def cX (H V C:Nat) (l:List Int) (za:Int) (K S P Wo:Nat) (r:Nat):Int :=
 px H V C l za ((r / (K*K*C) / Wo*S+r % (K*K*C) / C / K:Nat) - (P:Int)) ((r / (K*K*C) % Wo*S+r % (K*K*C) / C % K:Nat) - (P:Int)) (r % (K*K*C) % C)
theorem cL {w w':World} {r:Option Nat} (h:Below w w w'):w.grownBy w' r:=⟨h.os,h.tape,h.output,h.size,fun k hk _=>h.block k hk⟩
theorem lV {f:Nat → Int} {n k:Nat} (h:k < n) (hf:f k=0):cg 0 f n k=cg 0 f n (k+1):=by
 have e:=dD 0 f n k h
 rw [← e,hf]
 unfold cg
 apply List.ext_getElem sM
 intro i h1 h2
 rw [List.getElem_set]
 split
 ·rename_i e;subst e
  rw [List.getElem_append_right sM]
  simp
 ·rfl
theorem rY (H V C:Nat) (A:QA) (n cap:Nat) (l:List Int) (d:af) (W:QA) (nw cw:Nat) (B:QA) (nb cb:Nat) (Ho Wo K S P gt gn gr q N m base M WD:Nat) (many wide:Int) (w:World)
  (hl:Sl (aa .i8) w (blo m) A n cap l) (hm:m≤base) (hn:n=H*V*C) (hn2:n≤1024) (hz:InK .i8 d.za) (hk:d.k=K) (hs:d.s=S) (hp:d.p=P) (k1:1≤K∧K≤5) (s1:S≤4) (p1:P≤4)
  (h1:1≤H∧H≤16) (v1:1≤V∧V≤16) (c1:1≤C∧C≤1024) (he:decide (0 < ab H V C)=true) (ho1:1≤Ho∧Ho≤16) (w1':1≤Wo∧Wo≤16) (hM:Ho*Wo=M) (hWD:K*K*C=WD) (hN:M*WD=N)
  (bt:Blk w gt 27 (tN H V C A n cap)) (bn:Blk w gn 42 (nD d W nw cw B nb cb)) (br:Blk w gr 197 #[.int .i64 many,.int .i64 wide,.slice (some ⟨q,0,none⟩) N N]) (qt:gt ≠ q) (qn:gn ≠ q) (qr:gr ≠ q)
  (hown:Own (aa .i16) w (fun _=>False) base 224 (.slice (some ⟨q,0,none⟩) N N) N (List.replicate N 0)) :
  Calls prog 173 #[.agg #[.int .i64 H,.int .i64 V,.int .i64 C,.int .i64 d.kind,.int .i64 d.a,.int .i64 d.b,.int .i64 d.k,.int .i64 d.s,.int .i64 d.p,.int .i64 d.out,.int .i8 d.za,.int .i8 d.zb,.slice W nw cw,.slice B nb cb,.int .i32 d.qm,.int .i64 d.qs,.int .i8 d.qz,.int .i32 d.rm,.int .i64 d.rs,.int .i8 d.rz,.int .i8 d.lo,.int .i8 d.hi,.int .i64 Ho,.int .i64 Wo,.int .i64 1],.func (.func 174) #[.agg #[.int .i64 H,.int .i64 V,.int .i64 C,.int .i64 d.kind,.int .i64 d.a,.int .i64 d.b,.int .i64 d.k,.int .i64 d.s,.int .i64 d.p,.int .i64 d.out,.int .i8 d.za,.int .i8 d.zb,.slice W nw cw,.slice B nb cb,.int .i32 d.qm,.int .i64 d.qs,.int .i8 d.qz,.int .i32 d.rm,.int .i64 d.rs,.int .i8 d.rz,.int .i8 d.lo,.int .i8 d.hi,.int .i64 Ho,.int .i64 Wo,.int .i64 1]] #[],.func (.func 175) #[] #[.pointer (some ⟨gt,0,none⟩),.pointer (some ⟨gn,0,none⟩),.pointer (some ⟨gr,0,none⟩)]] w
   fun e w'=>e=.returned (.tuple #[])∧Own (aa .i16) w' (fun _=>False) base 224 (.slice (some ⟨q,0,none⟩) N N) N ((List.range N).map (cX H V C l d.za K S P Wo))∧w.grownBy w' (some q):=by
 have hMb:M≤256:=by rw [← hM];exact Nat.mul_le_mul ho1.2 w1'.2
 have hWb:WD≤25600:=by rw [← hWD];exact Nat.mul_le_mul (Nat.mul_le_mul k1.2 k1.2) c1.2
 have hNb:N≤256*25600:=by rw [← hN];exact Nat.mul_le_mul hMb hWb
 have WI:=zH (fun w=>mX H V C d W nw cw B nb cb Ho Wo 1 K w hk k1.2 c1.2)
 rw [hWD] at WI
 have EL:=zH (fun w=>bQ (Ho:Int) (1:Int) (Wo:Int) w (by rw [ah];omega) (by rw [ah];omega) (by rw [ah];omega))
 have hel:ab (Ho:Int) (Wo:Int) (1:Int)=(M:Int):=by
  rw [bI,if_pos ⟨by omega,by omega,by omega,by omega,by omega,by omega,by rw [Int.mul_one,← Int.natCast_mul,hM];omega⟩,Int.mul_one,← Int.natCast_mul,hM]
 rw [hel] at EL
 have PL:=zH (fun (i k:Nat) (hi:i≤1024) (hkk:k≤25600) w=>rk H V C d W nw cw B nb cb Ho Wo 1 K S P i k w hk hs hp k1 s1 p1 h1 v1 c1 he w1' hi hkk)
 have HL:=zH hl
 have HZ:=zH hz
 have BT:=zH bt
 have BN:=zH bn
 have BR:=zH br
 have NE:=zH hn
 have QQ:=zH (And.intro qt (And.intro qn qr))
 have hq:=hown.lt _ rfl
 rw [← cM 0 (cX H V C l d.za K S P Wo) N] at hown
 obtain ⟨w1,yw1,BS,yk1⟩:=nB w #[.int .i64 H,.int .i64 V,.int .i64 C,.int .i64 d.kind,.int .i64 d.a,.int .i64 d.b,.int .i64 d.k,.int .i64 d.s,.int .i64 d.p,.int .i64 d.out,.int .i8 d.za,.int .i8 d.zb,.slice W nw cw,.slice B nb cb,.int .i32 d.qm,.int .i64 d.qs,.int .i8 d.qz,.int .i32 d.rm,.int .i64 d.rs,.int .i8 d.rz,.int .i8 d.lo,.int .i8 d.hi,.int .i64 Ho,.int .i64 Wo,.int .i64 1] 219
 have GR:=zH (cL (r:=some q) yk1)
 have ON:=zH (hown.below yk1 (lR _) (fun _ h=>h.elim))
 have QB:=zH (show q < w.heap.size from hq.2)
 clear hl hz bt bn br hn qt qn qr hown hq hel he hk hs hp yk1
 go_in
 go_wp2_with (first|(refine lGJ19 BS.o ?_)|(go_at_call 172;refine qM (WI.o _) fun w2 hb=>?_;replace BS:=zF hb BS;replace GR:=zH (cJ GR.o (cL hb));replace ON:=zH (ON.o.below hb (lR _) (fun _ h=>h.elim));clear hb yw1)|(refine lQJ 24 (sN Ho Wo 1) BS.o ?_)|(go_at_call 20;refine qM (EL.o _) fun w3 hb=>?_;replace BS:=zF hb BS;replace GR:=zH (cJ GR.o (cL hb));replace ON:=zH (ON.o.below hb (lR _) (fun _ h=>h.elim));clear hb))
 go_loopw [16] (fun ii wr=>∃ i:Nat,i≤M∧ii=.int .i64 i∧w.grownBy wr (some q)∧Blk wr w.heap.size 219 #[.int .i64 H,.int .i64 V,.int .i64 C,.int .i64 d.kind,.int .i64 d.a,.int .i64 d.b,.int .i64 d.k,.int .i64 d.s,.int .i64 d.p,.int .i64 d.out,.int .i8 d.za,.int .i8 d.zb,.slice W nw cw,.slice B nb cb,.int .i32 d.qm,.int .i64 d.qs,.int .i8 d.qz,.int .i32 d.rm,.int .i64 d.rs,.int .i8 d.rz,.int .i8 d.lo,.int .i8 d.hi,.int .i64 Ho,.int .i64 Wo,.int .i64 1]∧Own (aa .i16) wr (fun _=>False) base 224 (.slice (some ⟨q,0,none⟩) N N) N (cg 0 (cX H V C l d.za K S P Wo) N (i*WD))) (fun ii _=>M - (intOf ii).toNat)
 case atStart=>exact ⟨0,zl _,rfl,GR.o,BS.o,by rw [Nat.zero_mul];exact ON.o⟩
 case round =>
  obtain ⟨i,hi,rfl,f0,f1,f2⟩:=hrel
  clear GR BS ON
  have GR:=zH f0
  have BS:=zH f1
  have ON:=zH f2
  clear f0 f1 f2
  by_cases hlt:i < M
  ·have p1':(i:Int) < (M:Int):=oM
   go_wp2
   go_loopw [20] (fun ii wr=>∃ k:Nat,k≤WD∧ii=.int .i64 k∧w.grownBy wr (some q)∧Blk wr w.heap.size 219 #[.int .i64 H,.int .i64 V,.int .i64 C,.int .i64 d.kind,.int .i64 d.a,.int .i64 d.b,.int .i64 d.k,.int .i64 d.s,.int .i64 d.p,.int .i64 d.out,.int .i8 d.za,.int .i8 d.zb,.slice W nw cw,.slice B nb cb,.int .i32 d.qm,.int .i64 d.qs,.int .i8 d.qz,.int .i32 d.rm,.int .i64 d.rs,.int .i8 d.rz,.int .i8 d.lo,.int .i8 d.hi,.int .i64 Ho,.int .i64 Wo,.int .i64 1]∧Own (aa .i16) wr (fun _=>False) base 224 (.slice (some ⟨q,0,none⟩) N N) N (cg 0 (cX H V C l d.za K S P Wo) N (i*WD+k))) (fun ii _=>WD - (intOf ii).toNat)
   case atStart=>exact ⟨0,zl _,rfl,GR.o,BS.o,ON.o⟩
   case round =>
    obtain ⟨k,hk,rfl,f0,f1,f2⟩:=hrel
    clear GR BS ON
    have GR:=zH f0
    have BS:=zH f1
    have ON:=zH f2
    clear f0 f1 f2
    by_cases hlk:k < WD
    ·have p2':(k:Int) < (WD:Int):=oM
     go_wp2_with fail
     have hrow:i*WD+k < N:=by
      rw [← hN]
      have:(i+1)*WD≤M*WD:=Nat.mul_le_mul_right _ hlt
      rw [Nat.succ_mul] at this
      omega
     have dv:(i*WD+k) / WD=i:=by rw [Nat.mul_comm,Nat.mul_add_div oM,Nat.div_eq_of_lt hlk,Nat.add_zero]
     have md:(i*WD+k) % WD=k:=by rw [Nat.mul_comm,Nat.mul_add_mod,Nat.mod_eq_of_lt hlk]
     obtain ⟨r1,hr1⟩:∃ x,i*WD=x:=⟨_,rfl⟩
     have j1:(i:Int)*(WD:Int)=(r1:Int):=by rw [← hr1];simp
     have hr1b:r1≤256*25600:=by rw [← hr1];exact Nat.mul_le_mul oM hWb
     have e1:IntKind.i64.wrap ((i:Int)*(WD:Int))=(r1:Int):=by rw [j1];exact wJ
     obtain ⟨row,hrw⟩:∃ x,i*WD+k=x:=⟨_,rfl⟩
     have e2:IntKind.i64.wrap ((r1:Int)+(k:Int))=(row:Int):=(wJ).trans oM
     rw [hrw] at hrow dv md ON
     have HRW:=zH (show i*WD+(k+1)=row+1 by omega)
     obtain ⟨yy,hyy⟩:∃ x:Int,((i / Wo*S+k / C / K:Nat):Int) - (P:Int)=x:=⟨_,rfl⟩
     obtain ⟨xx,hxx⟩:∃ x:Int,((i % Wo*S+k / C % K:Nat):Int) - (P:Int)=x:=⟨_,rfl⟩
     have FV:=zH (show cX H V C l d.za K S P Wo row=px H V C l d.za yy xx (k % C) by unfold cX;rw [hWD,dv,md,hyy,hxx])
     have PC:=PL.o i k oM oM wr
     rw [hyy,hxx] at PC
     have FS:=zH (dD 0 (cX H V C l d.za K S P Wo) N row hrow)
     have FN:=zH (fun hf=>lV (f:=cX H V C l d.za K S P Wo) (n:=N) (k:=row) hrow hf)
     clear dv md hyy hxx hrw hr1 j1
     by_cases hin:aK H V yy xx
     ·have hin2:=hin
      unfold aK at hin2
      have HIX:=zH (show cH V C yy xx (k % C) < n by rw [NE.o];exact dO yy.toNat xx.toNat (k % C) H V C oM oM (Nat.mod_lt _ oM))
      have PV:=zH (show cX H V C l d.za K S P Wo row=l.getD (cH V C yy xx (k % C)) 0 - d.za by rw [FV.o];unfold px;rw [if_pos hin2];rfl)
      clear hin2
      rw [if_pos hin,qT hin] at PC
      refine PC.mono ?_
      rintro e w2 ⟨rfl,hb⟩
      have G2:=zH (cJ GR.o (cL hb))
      have B2:=zH (BS.o.fut hb)
      have O2:=zH (ON.o.below hb (lR _) (fun _ h=>h.elim))
      have lq:=(ON.o.lt _ rfl).1
      clear hb
      go_wp2_with fail
      refine (iQ A n cap l d W nw cw B nb cb undef undef undef gt gn gr q N m base _ H V C many wide row _ true w2 (HL.o.away G2.o oM (by have:=QB.o;omega)) HZ.o (BT.o.rowR G2.o (fun e=>QQ.o.1 (sI e))) (BN.o.rowR G2.o (fun e=>QQ.o.2.1 (sI e))) (BR.o.rowR G2.o (fun e=>QQ.o.2.2 (sI e))) O2.o hrow (fun _=>⟨_,rfl,HIX.o⟩) oM hn2).mono ?_
      rintro e w3 ⟨rfl,own3,g3⟩
      have B3:=zH (B2.o.rowR g3 (fun e=>by have:=sI e;have:=QB.o;omega))
      have G3:=zH (cJ G2.o g3)
      rw [if_pos rfl,Int.toNat_natCast,← PV.o,FS.o] at own3
      have O3:=zH own3
      clear own3 g3
      go_wp2
      exact ⟨⟨k+1,by omega,by go_num,G3.o,B3.o,by rw [HRW.o];exact O3.o⟩,by simp [intOf];omega⟩
     ·have PV:=zH (show cX H V C l d.za K S P Wo row=0 by rw [FV.o];unfold px;exact if_neg hin)
      rw [if_neg hin,dF hin] at PC
      refine PC.mono ?_
      rintro e w2 ⟨rfl,hb⟩
      have G2:=zH (cJ GR.o (cL hb))
      have B2:=zH (BS.o.fut hb)
      have O2:=zH (ON.o.below hb (lR _) (fun _ h=>h.elim))
      have lq:=(ON.o.lt _ rfl).1
      clear hb
      go_wp2_with fail
      refine (iQ A n cap l d W nw cw B nb cb undef undef undef gt gn gr q N m base _ H V C many wide row _ false w2 (HL.o.away G2.o oM (by have:=QB.o;omega)) HZ.o (BT.o.rowR G2.o (fun e=>QQ.o.1 (sI e))) (BN.o.rowR G2.o (fun e=>QQ.o.2.1 (sI e))) (BR.o.rowR G2.o (fun e=>QQ.o.2.2 (sI e))) O2.o hrow (fun h=>by cases h) oM hn2).mono ?_
      rintro e w3 ⟨rfl,own3,g3⟩
      have B3:=zH (B2.o.rowR g3 (fun e=>by have:=sI e;have:=QB.o;omega))
      have G3:=zH (cJ G2.o g3)
      rw [if_neg dM,FN.o PV.o] at own3
      have O3:=zH own3
      clear own3 g3
      go_wp2
      exact ⟨⟨k+1,by omega,by go_num,G3.o,B3.o,by rw [HRW.o];exact O3.o⟩,by simp [intOf];omega⟩
    ·obtain rfl:k=WD:=oM
     go_wp2
     exact ⟨⟨i+1,by omega,by go_num,GR.o,BS.o,by rw [Nat.succ_mul];exact ON.o⟩,by simp [intOf];omega⟩
  ·obtain rfl:i=M:=oM
   go_wp2_with fail
   ((try simp only [Exit.inBlock,Exit.then]);refine bodyPost_end (results_none rfl _ _ _) rfl ?_)
   have e:=ON.o
   rw [hN,dZ] at e
   exact ⟨rfl,e,GR.o⟩
theorem rK {H V C:Nat} {d:af} {o:Int} {Ho Wo Co:Nat} (h:aw H V C d.k d.s d.p o=(((Ho:Int),(Wo:Int),(Co:Int)),0)):aw H V C d.k d.s d.p 1=(((Ho:Int),(Wo:Int),1),0):=by
 obtain ⟨K,S,P,Ho',Wo',Co',WK,e1,e2,e3,e4,-⟩:=gh h
 obtain rfl:Ho=Ho':=oM
 obtain rfl:Wo=Wo':=oM
 unfold aw at h ⊢
 by_cases c1:ab H V C=0
 ·rw [if_pos c1] at h;cases (Prod.mk.inj h).2
 rw [if_neg c1] at h ⊢
 by_cases c2:(aG H d.k d.s d.p).2 ≠ 0
 ·rw [if_pos c2] at h;exact absurd (Prod.mk.inj h).2 c2
 rw [if_neg c2] at h ⊢
 by_cases c3:(aG V d.k d.s d.p).2 ≠ 0
 ·rw [if_pos c3] at h;exact absurd (Prod.mk.inj h).2 c3
 rw [if_neg c3] at h ⊢
 by_cases c4:ab (aG H d.k d.s d.p).1 (aG V d.k d.s d.p).1 o=0
 ·rw [if_pos c4] at h;cases (Prod.mk.inj h).2
 rw [if_neg c4] at h
 have h':=(Prod.mk.inj h).1
 have f1:=(Prod.mk.inj h').1
 have f2:=(Prod.mk.inj (Prod.mk.inj h').2).1
 rw [f1,f2]
 have e:ab (Ho:Int) (Wo:Int) 1=((Ho*Wo:Nat):Int):=by
  have a:=WK.ho1
  have b:=WK.wo1
  have:Ho*Wo≤256:=Nat.mul_le_mul a.2 b.2
  rw [bI,if_pos ⟨by omega,by omega,by omega,by omega,by omega,by omega,by rw [Int.mul_one,← Int.natCast_mul];omega⟩,Int.mul_one,← Int.natCast_mul]
 have hp:0 < Ho*Wo:=Nat.mul_pos (by have:=WK.ho1;omega) (by have:=WK.wo1;omega)
 rw [e,if_neg oM]
theorem sD (H V C:Nat) (d:af) (W:QA) (nw cw:Nat) (B:QA) (nb cb:Nat) (Ho Wo:Nat) (w:World) (h1:H≤16) (v1:V≤16) (c1:C≤1024) (hs:aw H V C d.k d.s d.p 1=(((Ho:Int),(Wo:Int),1),0)) :
  Calls prog 171 #[.agg (sN H V C),.agg (nD d W nw cw B nb cb)] w fun e w'=>e=.returned (.tuple #[.agg #[.int .i64 H,.int .i64 V,.int .i64 C,.int .i64 d.kind,.int .i64 d.a,.int .i64 d.b,.int .i64 d.k,.int .i64 d.s,.int .i64 d.p,.int .i64 d.out,.int .i8 d.za,.int .i8 d.zb,.slice W nw cw,.slice B nb cb,.int .i32 d.qm,.int .i64 d.qs,.int .i8 d.qz,.int .i32 d.rm,.int .i64 d.rs,.int .i8 d.rz,.int .i8 d.lo,.int .i8 d.hi,.int .i64 Ho,.int .i64 Wo,.int .i64 1],.int .i64 0])∧Below w w w':=by
 have SD:=zH (fun w=>dQ (H:Int) V C d.k d.s d.p 1 w (by rw [ah];omega) (by rw [ah];omega) (by rw [ah];omega) dM)
 rw [hs] at SD
 simp only [aL] at SD
 have FR:=zW w
 obtain ⟨w1,w2,w3,yw1,yw2,yw3,l1,l2,_,BS,BN,BR,yk3⟩:=bk3 w (sN H V C) 24 (nD d W nw cw B nb cb) 42 #[.int .i64 0,.int .i64 0,.int .i64 0,.int .i64 0,.int .i64 0,.int .i64 0,.int .i64 0,.int .i64 0,.int .i64 0,.int .i64 0,.int .i8 0,.int .i8 0,.slice none 0 0,.slice none 0 0,.int .i32 0,.int .i64 0,.int .i8 0,.int .i32 0,.int .i64 0,.int .i8 0,.int .i8 0,.int .i8 0,.int .i64 0,.int .i64 0,.int .i64 0] 219
 replace FR:=zF yk3 FR
 clear yk3
 obtain ⟨n3,n4,n5⟩:=uc3 BN 3 4 5
 simp only [gX] at n3 n4 n5
 clear hs
 go_in
 go_wp2_with (first|(refine lGJ19 BS.o ?_)|(go_at_call 107;refine qM (SD.o _) fun w4 hb=>?_;obtain ⟨FR,BS,BN,BR⟩:=uz4 hb FR BS BN BR;have l4:=hb.size;clear hb n3 n4 n5 yw1 yw2 yw3;obtain ⟨w5,yw5⟩:∃ x,w4.alloc (.cells (sN Ho Wo 1) 24)=x:=⟨_,rfl⟩;have hb:Below w4 w4 w5:=(by rw [← yw5];exact (qB _ _).alloc (lR _) _);have BM:=zH (show Blk w5 w4.heap.size 24 (sN Ho Wo 1) by rw [← yw5];exact Blk.now _ _ _ _ rfl);obtain ⟨FR,BS,BN,BR⟩:=uz4 hb FR BS BN BR;clear hb)|(refine lGJ19 BN.o ?_)|(refine lGJ19 BM.o ?_)|(refine sGJ19 #[.int .i64 H,.int .i64 V,.int .i64 C,.int .i64 d.kind,.int .i64 d.a,.int .i64 d.b,.int .i64 d.k,.int .i64 d.s,.int .i64 d.p,.int .i64 d.out,.int .i8 d.za,.int .i8 d.zb,.slice W nw cw,.slice B nb cb,.int .i32 d.qm,.int .i64 d.qs,.int .i8 d.qz,.int .i32 d.rm,.int .i64 d.rs,.int .i8 d.rz,.int .i8 d.lo,.int .i8 d.hi,.int .i64 Ho,.int .i64 Wo,.int .i64 1] BR.o ?_;intro w9 B9 g9))
 refine ret_cell_tmp rfl B9 rfl underlying219 (by show _=some 25;kernel_rfl) rfl ?_
 exact ⟨rfl,(FR.o.away g9 oM).out⟩
theorem po (A:QA) (n cap:Nat) (l:List Int) (w:World) (hl:Sl (aa .i64) w (blo w) A n cap l) (hn:n≤1024) (hb:∀ i,i < n → 1≤l.getD i 0∧l.getD i 0≤16384) :
  Calls prog 176 #[.slice A n cap] w fun e w'=>e=.returned (.bool true)∧w=w':=by
 have H:=zH hl
 have HB:=zH hb
 clear hl hb
 go_in
 go_wp2
 go_loopw [7] (fun ii wr=>∃ k:Nat,k≤n∧ii=.int .i64 k∧w=wr) (fun ii _=>n - (intOf ii).toNat)
 case atStart=>exact ⟨0,zl _,rfl,rfl⟩
 case round =>
  obtain ⟨k,hk,rfl,rfl⟩:=hrel
  by_cases hlt:k < n
  ·have p1:(k:Int) < (n:Int):=oM
   obtain ⟨b,o,rfl,-,-,cx,ix⟩:=H.o.int_at k hlt
   obtain ⟨x1,x2⟩:=HB.o k hlt
   obtain ⟨x,hx⟩:∃ x,l.getD k 0=x:=⟨_,rfl⟩
   rw [hx] at cx ix x1 x2
   have t1:¬ x < 1:=oM
   have t2:¬ 16384 < x:=oM
   clear hx
   go_wp2
   exact ⟨⟨k+1,by omega,by go_num,by trivial⟩,by simp [intOf];omega⟩
  ·obtain rfl:k=n:=oM
   go_wp2
   go_ret
   exact ⟨rfl,by trivial⟩
theorem nd (N:Nat) (w:World) (hN:N≤1024) :
  Calls prog 181 #[.int .u64 1,.int .u64 N] w fun e w'=>e=.returned (.tuple #[.int .u64 0,.int .u64 N])∧w=w':=by
 have B:=zH (fun w=>Tryz.bits_Mul64 1 N dM oM w)
 rw [show 1*N / 18446744073709551616=0 by omega,show 1*N % 18446744073709551616=N by omega] at B
 go_in
 go_wp2_with (go_at_call 109;refine (B.o _).mono ?_;rintro e w2 ⟨rfl,rfl⟩)
 go_ret2
 exact ⟨rfl,rfl⟩
theorem jC (N k m:Nat) (v:Int) (h:k+m≤N):splice (List.replicate k v ++ List.replicate (N - k) 0) k (List.replicate m v)=List.replicate (k+m) v ++ List.replicate (N - (k+m)) 0:=by
 unfold splice
 rw [List.take_append_of_le_length sM,List.take_of_length_le sM,List.length_replicate,List.drop_append]
 simp only [List.drop_replicate,List.length_replicate]
 rw [show k - (k+m)=0 by omega,List.replicate_zero,List.nil_append,← List.append_assoc,List.replicate_append_replicate,show N - k - (k+m - k)=N - (k+m) by omega]
theorem pS (v:Int) (N g:Nat) (w:World) (hN:1≤N∧N≤1024) (hv:InK .i8 v) (hc:w.cell? ⟨g,0,none⟩=some (.int .i8 v)) (hg:g < w.heap.size) :
  Calls prog 167 #[.slice (some ⟨g,0,none⟩) 1 1,.int .i64 N] w fun e w'=>∃ q,e=.returned (.slice (some ⟨q,0,none⟩) N N)∧Own (aa .i8) w' (fun _=>False) w.heap.size 37 (.slice (some ⟨q,0,none⟩) N N) N (List.replicate N v)∧Below w w w':=by
 have MU:=zH (fun w=>nd N w hN.2)
 have HV:=zH hv
 have HC:=zH hc
 have FR:=zW w
 have c1:IntKind.u64.wrap (N:Int)=(N:Int):=by rw [IntKind.wrap_u64];omega
 have c2:IntKind.i64.wrap (N:Int)=(N:Int):=wJ
 have n1:¬ (9223372036854775807:Int) < (N:Int):=oM
 have n2:¬ (N:Int) < 0:=oM
 obtain ⟨hN1,hN2⟩:=hN
 clear hv hc
 have f0:=zH (show ∀ x ∈ [v],InK .i8 x by intro x hx;rw [List.mem_singleton] at hx;subst hx;exact HV.o)
 have f1:=zH (show [v].length=Nat.min 1 N by show 1=min 1 N;omega)
 have f2:=zH (show ∀ w3:World,Below w w w3 → ∀ j,j < [v].length → w3.cell? ((⟨g,0,none⟩:Addr).add j)=some (.int .i8 ([v].getD j 0)) by
  intro w3 kb j hj
  obtain rfl:j=0:=by have:j < 1:=hj;omega
  exact (kb.cell (p:=⟨g,0,none⟩) hg).trans HC.o)
 have f3:=zH (show 0+[v].length≤N by show 1≤N;omega)
 go_in
 go_wp2_with (first|(go_at_call 181;refine (MU.o _).mono ?_;rintro e w2 ⟨rfl,rfl⟩)|(at_make;refine wpList_make (t:=aa .i8) (S:=fun _=>False) (base:=w.heap.size) rfl _ _ rfl dy .i64 .i64 _ _ N rfl rfl rfl rfl ?_ ?_ ?_ 0 ⟨rfl,by decide⟩ (fun _ h=>h.elim) ?_;rotate_right;intro w3 hown hgr;have kb:Below w w w3:=(qB _ _).grown hgr (lR _) sM;have ON:=zH hown;replace FR:=zF kb FR;have lq:=hown.lt _ rfl;have g3:=zH (f2.out w3 kb);clear hown hgr kb)|(refine iC (k:=.i8) rfl (.tmp 31) (.tmp 32) 25 25 rfl 37 underlying25 kM ON.o 0 N N rfl ⟨g,0,none⟩ 1 1 rfl [v] f0.out f1.out g3.out f3.out ?_;intro w4 own4 g4))
 rotate_left
 ·omega
 ·unfold maxLen;omega
 ·omega
 have O4:=zH (show Own (aa .i8) w4 (fun _=>False) w.heap.size 37 (.slice (some ⟨w.heap.size,0,none⟩) N N) N (List.replicate 1 v ++ List.replicate (N - 1) 0) by
  have:=jC N 0 1 v oM
  simp only [List.replicate_zero,List.nil_append,Nat.sub_zero,Nat.zero_add] at this
  rw [← this];exact own4)
 replace FR:=zH (FR.o.away g4 (lR _))
 have ON:=O4
 clear own4 g4 g3 f0 f1 f2 f3 O4 MU HC c1 n1 n2
 go_loopw [8] (fun ii wr=>∃ k:Nat,1≤k∧k≤N∧ii=.int .i64 k∧Far w wr∧Own (aa .i8) wr (fun _=>False) w.heap.size 37 (.slice (some ⟨w.heap.size,0,none⟩) N N) N (List.replicate k v ++ List.replicate (N - k) 0)) (fun ii _=>N - (intOf ii).toNat)
 case atStart=>exact ⟨1,lR _,hN1,rfl,FR.o,ON.o⟩
 case round =>
  obtain ⟨k,hk1,hk2,rfl,f0,f1⟩:=hrel
  clear FR ON
  have FR:=zH f0
  have ON:=zH f1
  clear f0 f1
  by_cases hlt:k < N
  ·have p1:(k:Int) < (N:Int):=oM
   obtain ⟨m,hm⟩:∃ m,Nat.min k (N - k)=m:=⟨_,rfl⟩
   have hm1:1≤m∧k+m≤N:=by rw [← hm];show 1≤min k (N - k)∧k+min k (N - k)≤N;omega
   have HM:=zH hm
   have ne:¬ N=k:=oM
   have k0:0≤(k:Int):=oM
   have k2:(k:Int)≤(N:Int):=oM
   have e1:IntKind.i64.wrap ((k:Int)+(m:Int))=((k+m:Nat):Int):=(wJ).trans oM
   clear hm
   have fd:Below w w wr.drew:=FR.u.drew
   have O2:=zH (ON.o.heap (w':=wr.drew) rfl)
   have f0:=zH (show ∀ x ∈ List.replicate m v,InK .i8 x by intro x hx;rw [List.eq_of_mem_replicate hx];exact HV.o)
   have f1:=zH (show (List.replicate m v).length=Nat.min k (N - k) by rw [List.length_replicate];exact HM.o.symm)
   have f2:=zH (show ∀ j,j < (List.replicate m v).length → wr.drew.cell? ((⟨w.heap.size,0,none⟩:Addr).add j)=some (.int .i8 ((List.replicate m v).getD j 0)) by
    intro j hj
    rw [List.length_replicate] at hj
    have hmk:m≤k:=by rw [← HM.o];exact Nat.min_le_left _ _
    obtain ⟨x,u,hx,hu,hc,-⟩:=O2.o.cell rfl j oM
    rw [List.getElem?_append_left (by rw [List.length_replicate];omega),List.getElem?_replicate,if_pos oM] at hx
    injection hx with hx
    have hu1:=hu.1
    simp only [List.cons.injEq,and_true] at hu1
    have ha:(⟨w.heap.size,0,none⟩:Addr).add j=⟨w.heap.size,j,none⟩:=by unfold Addr.add;split <;> simp_all
    rw [ha,hc,hu1,gD,List.getElem?_replicate,if_pos hj,hx]
    rfl)
   have f3:=zH (show k+(List.replicate m v).length≤N by rw [List.length_replicate];exact hm1.2)
   go_wp2_with fail
   refine aJ (fun w'=>Below w w w') 9 kM ?_ (fun hS=>?_)
   ·exact fd
   refine kT' 0 hS ?_
   refine kT' 1 hS ?_
   refine kT' 2 hS ?_
   refine kT' 3 hS ?_
   refine kT' 4 hS ?_
   refine kT' 5 hS ?_
   refine kT' 6 hS ?_
   refine rT 7 (fun K hK=>?_)
   (rw [if_pos (by rfl)];refine fD (k:=.i8) (.tmp 41) (.tmp 44) 25 25 rfl 37 underlying25 kM O2.o k (N - k) (N - k) rfl ⟨w.heap.size,0,none⟩ k N rfl (List.replicate m v) f0.out f1.out f2.out f3.out ?_;intro w4 own4 g4;have O4:=zH own4;clear own4;refine hK.out _ _ (fd.grown g4 fd.size (fun k e=>by injection e with e;omega)) (fun hS=>?_))
   clear hK K
   try simp only [pX]
   refine kT' 8 hS ?_
   refine wpAnyT_tail _ _ rfl rfl kM ?_
   have FZ:=zH (show Far w w4 from ⟨hS⟩)
   clear hS f0 f1 f2 f3 O2 g4 fd
   go_wp2_with fail
   have o5:=O4.o
   rw [jC N k m v hm1.2] at o5
   exact ⟨⟨k+m,by omega,by omega,by go_num,FZ.o,o5⟩,by simp [intOf];omega⟩
  ·obtain rfl:k=N:=oM
   go_wp2
   go_ret
   refine ⟨_,rfl,?_,FR.u⟩
   have:=ON.o
   rw [Nat.sub_self,List.replicate_zero,List.append_nil] at this
   exact this
end Go.Proofs.YtmihnoagagbgaaaGreat
namespace Go.Proofs.YtmihnoagagbgaaaGreat
open Go.RowKit Go.ChangeShapes Go.WideShapes Tryz
set_option maxRecDepth 100000
set_option maxHeartbeats 16000000
theorem dS (h v c h2 v2 c2:Int) (d:af) (W:QA) (nw cw:Nat) (B:QA) (nb cb:Nat) (w:World) (i0:InK .i64 h) (i1:InK .i64 v) (i2:InK .i64 c) (hout:InK .i64 d.out) (hp:InK .i64 d.p) (hnw:nw=d.w.length) (hnb:nb=d.bias.length) (mw:nw≤1048576) (mb:nb≤1048576) (hk:6≤d.kind∧d.kind≤9) :
  Calls prog 108 #[.agg (nD d W nw cw B nb cb),.agg (sN h v c),.agg (sN h2 v2 c2)] w fun e w'=>e=aL (bJ d.kind h v c h2 v2 c2 d.p)∧Below w w w':=by
 obtain ⟨r,hr⟩:∃ r,bJ d.kind h v c h2 v2 c2 d.p=r:=⟨_,rfl⟩
 rw [hr]
 unfold bJ at hr
 have RI:=zH (fun w=>aP h c v w i0 i1 i2)
 have RE:=zH (fun w=>bQ h c v w i0 i1 i2)
 have EB:=zH (dL (h:=h) (v:=v) (c:=c))
 have m0:=(aC h v c).1
 obtain ⟨m,hm⟩:∃ m,ab h v c=m:=⟨_,rfl⟩
 obtain ⟨eq,he⟩:∃ x,([h,v,c] == [h2,v2,c2])=x:=⟨_,rfl⟩
 have QE:=zH (fun w=>eo w h v c h2 v2 c2)
 rw [hm,he] at hr
 rw [hm] at RI RE EB m0
 rw [he] at QE
 have VV:=zH hr.symm
 clear hr hm he i0 i1 i2 hout hnw hnb mw mb
 have FR:=zW w
 obtain ⟨w1,w2,w3,w4,yw1,yw2,yw3,yw4,l1,l2,l3,l4,BN,BA,BB,BR,yk4⟩:=bk4 w (nD d W nw cw B nb cb) 42 (sN h v c) 24 (sN h2 v2 c2) 24 (sN 0 0 0) 24
 replace FR:=zF yk4 FR
 clear yk4
 by_cases c1:m=0
 ·have t1:decide (0 < m)=false:=by simp;omega
  have R:=zH (show r=noS 5 by rw [VV.o,if_pos c1])
  clear c1 VV m0 hk hp EB
  go_in
  go_wp2_with (first
   | (refine lGJ19 BA.o ?_))
  clear yw1 yw2 yw3 yw4
  refine qM (RI.o _) fun w5 hb=>?_
  obtain ⟨FR,BN,BA,BB,BR⟩:=uz5 hb FR BN BA BB BR
  clear hb
  go_wp2_with (first
   | (refine sGJ19 (sN 0 0 0) BR.o ?_;intro w7 BR7 g7))
  refine rG BR7 ?_;exact ⟨by rw [R.o];rfl,(FR.o.away g7 oM).out⟩
 have t1:decide (0 < m)=true:=by simp;omega
 have V2:=zH (show r=(if d.kind=6∧eq=false then noS 5 else if d.kind=8 then cI h v c d.p else if d.kind=9 then ((1,1,m),0) else ((h,v,c),0)) by rw [VV.o,if_neg c1])
 have AR:=zH (fun w=>ny h v c d.p w (EB.o c1) hp)
 clear VV c1 m0 hp EB
 rcases (show d.kind=6 ∨ d.kind=7 ∨ d.kind=8 ∨ d.kind=9 by omega) with e|e|e|e
 ·clear hk
  have k6:(d.kind == 6)=true:=by simp [e]
  have k8:(d.kind == 8)=false:=by simp [e]
  have k9:(d.kind == 9)=false:=by simp [e]
  cases eq
  case false =>
   have R:=zH (show r=noS 5 by rw [V2.o];simp [e])
   clear V2 e AR RE
   go_in
   go_wp2_with (first
    | (refine lGJ19 BA.o ?_))
   clear yw1 yw2 yw3 yw4
   refine qM (RI.o _) fun w5 hb=>?_
   obtain ⟨FR,BN,BA,BB,BR⟩:=uz5 hb FR BN BA BB BR
   clear hb
   have n0:=BN.o.cell 0
   go_wp2_with (first
    | (refine lGJ19 BA.o ?_)
    | (refine lGJ19 BB.o ?_)
    | (refine bq 24 _ (.tmp 16) (.tmp 17) rfl _ _ rfl rfl (by rfl) kM _ (QE.o _) ?_;try simp only [Bool.not_true,Bool.not_false])
    | (refine sGJ19 (sN 0 0 0) BR.o ?_;intro w7 BR7 g7))
   refine rG BR7 ?_;exact ⟨by rw [R.o];rfl,(FR.o.away g7 oM).out⟩
  case true =>
   have R:=zH (show r=((h,v,c),0) by rw [V2.o];simp [e])
   clear V2 e AR RE
   go_in
   go_wp2_with (first
    | (refine lGJ19 BA.o ?_))
   clear yw1 yw2 yw3 yw4
   refine qM (RI.o _) fun w5 hb=>?_
   obtain ⟨FR,BN,BA,BB,BR⟩:=uz5 hb FR BN BA BB BR
   clear hb
   have n0:=BN.o.cell 0
   go_wp2_with (first
    | (refine lGJ19 BA.o ?_)
    | (refine lGJ19 BB.o ?_)
    | (refine bq 24 _ (.tmp 16) (.tmp 17) rfl _ _ rfl rfl (by rfl) kM _ (QE.o _) ?_;try simp only [Bool.not_true,Bool.not_false])
    | (refine sGJ19 (sN h v c) BR.o ?_;intro w7 BR7 g7))
   refine rG BR7 ?_;exact ⟨by rw [R.o];rfl,(FR.o.away g7 oM).out⟩
 ·clear hk
  have k6:(d.kind == 6)=false:=by simp [e]
  have k8:(d.kind == 8)=false:=by simp [e]
  have k9:(d.kind == 9)=false:=by simp [e]
  have R:=zH (show r=((h,v,c),0) by rw [V2.o];simp [e])
  clear V2 e AR RE QE
  go_in
  go_wp2_with (first
   | (refine lGJ19 BA.o ?_))
  clear yw1 yw2 yw3 yw4
  refine qM (RI.o _) fun w5 hb=>?_
  obtain ⟨FR,BN,BA,BB,BR⟩:=uz5 hb FR BN BA BB BR
  clear hb
  have n0:=BN.o.cell 0
  go_wp2_with (first
   | (refine lGJ19 BA.o ?_)
   | (refine sGJ19 (sN h v c) BR.o ?_;intro w7 BR7 g7))
  refine rG BR7 ?_;exact ⟨by rw [R.o];rfl,(FR.o.away g7 oM).out⟩
 ·clear hk
  have k6:(d.kind == 6)=false:=by simp [e]
  have k8:(d.kind == 8)=true:=by simp [e]
  have k9:(d.kind == 9)=false:=by simp [e]
  obtain ⟨⟨⟨x1,x2,x3⟩,xe⟩,hx⟩:∃ x,cI h v c d.p=x:=⟨_,rfl⟩
  rw [hx] at V2 AR
  simp only [aL] at AR
  have R:=zH (show r=((x1,x2,x3),xe) by rw [V2.o];simp [e])
  clear V2 e RE QE hx
  go_in
  go_wp2_with (first
   | (refine lGJ19 BA.o ?_))
  clear yw1 yw2 yw3 yw4
  refine qM (RI.o _) fun w5 hb=>?_
  obtain ⟨FR,BN,BA,BB,BR⟩:=uz5 hb FR BN BA BB BR
  clear hb
  obtain ⟨n0,n5⟩:=uc2 BN 0 5
  go_wp2_with (first
   | (refine lGJ19 BA.o ?_))
  clear n0 n5
  refine qM (AR.o _) fun w6 hb=>?_
  obtain ⟨FR,BN,BA,BB,BR⟩:=uz5 hb FR BN BA BB BR
  clear hb
  go_wp2_with (first
   | (refine sGJ19 (sN x1 x2 x3) BR.o ?_;intro w7 BR7 g7))
  refine rG BR7 ?_;exact ⟨by rw [R.o];rfl,(FR.o.away g7 oM).out⟩
 ·clear hk
  have k6:(d.kind == 6)=false:=by simp [e]
  have k8:(d.kind == 8)=false:=by simp [e]
  have k9:(d.kind == 9)=true:=by simp [e]
  have R:=zH (show r=((1,1,m),0) by rw [V2.o];simp [e])
  clear V2 e AR QE
  go_in
  go_wp2_with (first
   | (refine lGJ19 BA.o ?_))
  clear yw1 yw2 yw3 yw4
  refine qM (RI.o _) fun w5 hb=>?_
  obtain ⟨FR,BN,BA,BB,BR⟩:=uz5 hb FR BN BA BB BR
  clear hb
  have n0:=BN.o.cell 0
  go_wp2_with (first
   | (refine lGJ19 BA.o ?_))
  clear n0
  refine qM (RE.o _) fun w6 hb=>?_
  obtain ⟨FR,BN,BA,BB,BR⟩:=uz5 hb FR BN BA BB BR
  clear hb
  go_wp2_with (first
   | (refine sGJ19 (sN 1 1 m) BR.o ?_;intro w7 BR7 g7))
  refine rG BR7 ?_;exact ⟨by rw [R.o];rfl,(FR.o.away g7 oM).out⟩
end Go.Proofs.YtmihnoagagbgaaaGreat
