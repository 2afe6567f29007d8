/- A tile of rows multiplied (layer 12: product.part). -/
import Derived.Test.YtbecbfpoahhpnaaGreatJ27
import Derived.Test.YtbecbfpoahhpnaaGreatJ31
set_option linter.unusedVariables false
set_option linter.unusedSimpArgs false
set_option maxRecDepth 100000
set_option maxHeartbeats 16000000
namespace Go.Proofs.YtbecbfpoahhpnaaGreat
open Go.RowKit Go.ChangeShapes Go.WideShapes Fx Tryz
def wO (la lb:List Int) (M C i k:Nat):Int:=la.getD (i / C*M+k) 0*lb.getD (i % C*M+k) 0
def iZ (la lb:List Int) (M C i t:Nat):Int:=wrap32 (bf t (wO la lb M C i))
def fS (la lb:List Int) (M C N:Nat) (t:Nat → Nat):List Int:=(List.range N).map fun i=>iZ la lb M C i (t i)
theorem kU {e lb:List Int} {M C N:Nat} {t u:Nat → Nat} (h:∀ i,i < N → t i=u i):fS e lb M C N t=fS e lb M C N u:=by
 unfold fS;apply List.map_congr_left;intro i hi;rw [h i (List.mem_range.1 hi)]
theorem CY (e lb:List Int) (M C N:Nat) (t:Nat → Nat) (i:Nat) (h:i < N):(fS e lb M C N t)[i]?=some (iZ e lb M C i (t i)):=by
 unfold fS;rw [List.getElem?_map,List.getElem?_range h];rfl
theorem AZ (a lb:List Int) (M C N:Nat) (t:Nat → Nat) (j m:Nat):(fS a lb M C N t).set j (iZ a lb M C j m)=fS a lb M C N (fun i=>if i=j then m else t i):=by
 unfold fS;apply List.ext_getElem sM;intro i o n;rw [List.getElem_set];simp only [List.getElem_map,List.getElem_range];by_cases e:j=i
 ·subst e;rw [if_pos rfl,if_pos rfl]
 ·rw [if_neg e,if_neg (fun h=>e h.symm)]
theorem yD (e lb:List Int) (M C N:Nat):fS e lb M C N (fun _=>0)=List.replicate N 0:=by
 unfold fS;apply List.ext_getElem sM;intro i t a;simp only [List.getElem_map,List.getElem_range,List.getElem_replicate];show wrap32 0=0;unfold wrap32;decide
def eN (C r0 c0 c1 m1 r c:Nat) (t:Nat → Nat) (i:Nat):Nat:=if r0≤i / C∧c0≤i % C∧i % C < c1∧(i / C < r ∨ (i / C=r∧i % C < c)) then m1 else t i
theorem xu (C a e o n:Nat) (t:Nat → Nat):eN C a e o n a e t=t:=by
 funext i
 unfold eN;rw [if_neg oM]
theorem zk (C o a e n r:Nat) (t:Nat → Nat):eN C o a e n r e t=eN C o a e n (r+1) a t:=by
 funext i
 unfold eN;by_cases h:o≤i / C∧a≤i % C∧i % C < e∧(i / C < r ∨ (i / C=r∧i % C < e))
 ·rw [if_pos h,if_pos oM]
 ·rw [if_neg h,if_neg oM]
theorem xp (C s n a d r c:Nat) (t:Nat → Nat) (b:s≤r) (v:n≤c) (y:c < a) (p:a≤C):(fun i=>if i=r*C+c then d else eN C s n a d r c t i)=eN C s n a d r (c+1) t:=by
 funext i
 have m:(r*C+c) / C=r:=by rw [Nat.mul_comm,Nat.mul_add_div oM,Nat.div_eq_of_lt oM,Nat.add_zero]
 have md:(r*C+c) % C=c:=by rw [Nat.mul_comm,Nat.mul_add_mod,Nat.mod_eq_of_lt oM]
 have o:i=r*C+c ↔ i / C=r∧i % C=c:=by
  constructor
  ·intro h;subst h;exact ⟨m,md⟩
  ·rintro ⟨h,f⟩;have:=Nat.div_add_mod i C;rw [h,f,Nat.mul_comm] at this;exact this.symm
 unfold eN;by_cases h:i=r*C+c
 ·have w:=o.1 h;rw [if_pos h,if_pos oM]
 ·have w:¬ (i / C=r∧i % C=c):=fun e=>h (o.2 e);rw [if_neg h];by_cases l:s≤i / C∧n≤i % C∧i % C < a∧(i / C < r ∨ (i / C=r∧i % C < c))
  ·rw [if_pos l,if_pos oM]
  ·rw [if_neg l,if_neg oM]
theorem tF (l:List Int) (p n k:Nat) (h:k < n):((l.drop p).take n).getD k 0=l.getD (p+k) 0:=by
 rw [gD,List.getElem?_take,if_pos h,List.getElem?_drop,← gD]
theorem yE (a lb:List Int) (M C r c t D:Nat) (o:c < C) :
  wrap32 (iZ a lb M C (r*C+c) t+wrap32 (jB ((a.drop (r*M+t)).take D) ((lb.drop (c*M+t)).take D) D))=iZ a lb M C (r*C+c) (t+D):=by
 have n:(r*C+c) / C=r:=by rw [Nat.mul_comm,Nat.mul_add_div oM,Nat.div_eq_of_lt o,Nat.add_zero]
 have md:(r*C+c) % C=c:=by rw [Nat.mul_comm,Nat.mul_add_mod,Nat.mod_eq_of_lt o]
 have e:jB ((a.drop (r*M+t)).take D) ((lb.drop (c*M+t)).take D) D=bf D (fun k=>wO a lb M C (r*C+c) (t+k)):=by
  unfold jB;refine eF fun k i=>?_;unfold wO;rw [tF _ _ _ _ i,tF _ _ _ _ i,n,md,Nat.add_assoc,Nat.add_assoc]
 rw [e];unfold iZ;rw [nI,ij,iL]
theorem Bz (Q q m base R M C N k y p F s n:Nat) (A:QA) (Y X:Nat) (O:List Int) (B:QA) (nb cb:Nat) (lb:List Int) (t:Nat → Nat) (w:World)
  (ha:Sl (ab .i16) w (blo m) A Y X O) (S:Sl (ab .i8) w (blo m) B nb cb lb) (hm:m≤base) (bo:Y=R*M) (bs:nb=C*M) (hN:R*C=N) (hr:k≤F∧F≤R) (hc:y≤s∧s≤C) (cc:p < n∧n≤M) (bR:R≤16384) (bC:C≤16384) (bM:M≤16384)
  (bp:Blk w Q 357 #[.slice A Y X,.slice B nb cb,.int .i64 M,.int .i64 C,.slice (some ⟨q,0,none⟩) N N]) (bO:Q ≠ q)
  (j:Own (ab .i32) w (fun _=>False) base 21 (.slice (some ⟨q,0,none⟩) N N) N (fS O lb M C N t)) (ht:∀ i,i < N → k≤i / C → i / C < F → y≤i % C → i % C < s → t i=p) :
  Calls prog 247 #[.pointer (some ⟨Q,0,none⟩),.agg (sN k y p),.agg (sN F s n)] w
   fun e w'=>e=.returned (.tuple #[])∧Own (ab .i32) w' (fun _=>False) base 21 (.slice (some ⟨q,0,none⟩) N N) N (fS O lb M C N (eN C k y s n F y t))∧w.grownBy w' (some q):=by
 obtain ⟨HA,HB⟩:=zh2 ha S;have hq:=j.lt _ rfl;obtain ⟨NA,NB,NN,HT⟩:=zh4 bo bs hN ht;have cf:=ha.max_le;have co:=S.max_le;rw [← xu C k y s n t] at j;obtain ⟨w1,bb,f,W⟩:=nB w (sN k y p) 206;obtain ⟨l,g,d,QB⟩:=zh4 (bm (r:=some q) W) (j.below W (lR _) (fun _ h=>h.elim)) (bp.fut W) (show q < w.heap.size from hq.2);have S1:w1.heap.size=w.heap.size+1:=by rw [← bb];simp
 obtain ⟨w2,ct,v,L⟩:=nB w1 (sN F s n) 206;replace f:=zF L f;replace l:=zH (dG l.o (bm L));replace g:=zH (g.o.below L (lR _) (fun _ h=>h.elim));replace d:=zF L d;obtain ⟨QT,PQ,QM,LA⟩:=zh4 (show w1.heap.size ≠ q by have:=QB.o;omega) bO (show m≤q from lT hm hq.1) (show m≤w.heap.size from lT hm (lT hq.1 (Nat.le_of_lt hq.2)));have bn:N≤16384*16384:=by rw [← hN];exact Nat.mul_le_mul bR bC
 clear ha S j bp hq W L hN bo bs ht S1;go_in;have x0:=f.o.cell 0;simp only [gX] at x0;go_wp2_with fail;clear bb ct x0;go_loopw [6] (fun ii wr=>∃ r:Nat,k≤r∧r≤F∧ii=.int .i64 r∧w.grownBy wr (some q)∧Blk wr w.heap.size 206 (sN k y p)∧Blk wr w1.heap.size 206 (sN F s n)∧Blk wr Q 357 #[.slice A Y X,.slice B nb cb,.int .i64 M,.int .i64 C,.slice (some ⟨q,0,none⟩) N N]∧Own (ab .i32) wr (fun _=>False) base 21 (.slice (some ⟨q,0,none⟩) N N) N (fS O lb M C N (eN C k y s n r y t))) (fun ii _=>F - (intOf ii).toNat)
 case atStart=>exact ⟨k,lR _,hr.1,rfl,l.o,f.o,v.o,d.o,g.o⟩
 case round =>
  obtain ⟨r,bT,cw,rfl,f0,f1,f2,f3,f4⟩:=hrel;clear l f v d g;obtain ⟨l,f,v,d,g⟩:=zh5 f0 f1 f2 f3 f4;clear f0 f1 f2 f3 f4;have y0:=v.o.cell 0;simp only [gX] at y0;by_cases cd:r < F
  ·have p1:(r:Int) < (F:Int):=oM;obtain ⟨rm,I⟩:∃ x,r*M=x:=⟨_,rfl⟩;have bw:(r:Int)*(M:Int)=(rm:Int):=by rw [← I];simp
   have cH:rm≤16384*16384:=by rw [← I];exact Nat.mul_le_mul oM bM
   have cK:rm+M≤Y:=by rw [NA.o,← I,← Nat.succ_mul];exact Nat.mul_le_mul_right _ oM
   have e1:IntKind.i64.wrap ((r:Int)*(M:Int))=(rm:Int):=by rw [bw];exact wJ
   obtain ⟨D,hD⟩:∃ D,n=p+D:=⟨n - p,by omega⟩;obtain ⟨lo,bt⟩:∃ x,rm+p=x:=⟨_,rfl⟩;have e2:IntKind.i64.wrap ((rm:Int)+(p:Int))=(lo:Int):=(wJ).trans oM;obtain ⟨hi,ay⟩:∃ x,lo+D=x:=⟨_,rfl⟩;have e3:IntKind.i64.wrap ((rm:Int)+(n:Int))=(hi:Int):=(wJ).trans oM;obtain ⟨ba,oa,bA,-,-,-,-⟩:=HA.o.int_at 0 oM;subst bA;have bg:=zH (show r*M+p=lo by rw [I,bt]);have be:=HA.o.cap_le;have cy:hi≤Y:=oM;have cp:hi≤X:=oM;have ck:lo≤hi:=oM;have cj:hi - lo=D:=oM;have cq:¬ X=lo:=oM;obtain ⟨HD,ci⟩:=zh2 hD ay;have x2:=f.o.cell 2;have y2:=v.o.cell 2;obtain ⟨s0,s2⟩:=uc2 d 0 2;simp only [gX] at x2 y2 s0 s2;clear I bt bw hD ay;go_wp2_with fail;go_quiet (fail);have V:=aI (qB wr.heap.size wr) nq;replace l:=zH (dG l.o (bm V));obtain ⟨f,v,d⟩:=uz3 V f v d;replace g:=zH (g.o.below V (lR _) (fun _ h=>h.elim));clear x2 y2 s0 s2 V e1 e2 e3;generalize wr.drewN nq=wv at *;have x1:=f.o.cell 1;simp only [gX] at x1;clear y0;go_wp2_with fail;clear x1;go_loopw [8] (fun ii wr=>∃ c:Nat,y≤c∧c≤s∧ii=.int .i64 c∧w.grownBy wr (some q)∧Blk wr w.heap.size 206 (sN k y p)∧Blk wr w1.heap.size 206 (sN F s n)∧Blk wr Q 357 #[.slice (some ⟨ba,oa,none⟩) Y X,.slice B nb cb,.int .i64 M,.int .i64 C,.slice (some ⟨q,0,none⟩) N N]∧Own (ab .i32) wr (fun _=>False) base 21 (.slice (some ⟨q,0,none⟩) N N) N (fS O lb M C N (eN C k y s n r c t))) (fun ii _=>s - (intOf ii).toNat)
   case atStart=>exact ⟨y,lR _,hc.1,rfl,l.o,f.o,v.o,d.o,g.o⟩
   case round =>
    obtain ⟨c,bD,cr,rfl,f0,f1,f2,f3,f4⟩:=hrel;clear l f v d g;obtain ⟨l,f,v,d,g⟩:=zh5 f0 f1 f2 f3 f4;clear f0 f1 f2 f3 f4;have y1:=v.o.cell 1;simp only [gX] at y1;by_cases bH:c < s
    ·have p2:(c:Int) < (s:Int):=oM;obtain ⟨Z,H⟩:∃ x,c*M=x:=⟨_,rfl⟩;have ac:(c:Int)*(M:Int)=(Z:Int):=by rw [← H];simp
     have cn:Z≤16384*16384:=by rw [← H];exact Nat.mul_le_mul oM bM
     have ch:Z+M≤nb:=by rw [NB.o,← H,← Nat.succ_mul];exact Nat.mul_le_mul_right _ oM
     have f1:IntKind.i64.wrap ((c:Int)*(M:Int))=(Z:Int):=by rw [ac];exact wJ
     obtain ⟨P,bh⟩:∃ x,Z+p=x:=⟨_,rfl⟩;have f2:IntKind.i64.wrap ((Z:Int)+(p:Int))=(P:Int):=(wJ).trans oM;obtain ⟨pb,bN⟩:∃ x,P+D=x:=⟨_,rfl⟩;have hD:=HD.o;have f3:IntKind.i64.wrap ((Z:Int)+(n:Int))=(pb:Int):=(wJ).trans oM;obtain ⟨bz,oz,bB,-,-,-,-⟩:=HB.o.int_at 0 oM;subst bB;have bx:=zH (show c*M+p=P by rw [H,bh]);have be:=HB.o.cap_le;have cx:pb≤nb:=oM;have cz:pb≤cb:=oM;have cA:P≤pb:=oM;have cB:pb - P=D:=oM;have cC:¬ cb=P:=oM;obtain ⟨rc,T⟩:∃ x,r*C=x:=⟨_,rfl⟩;have bc:(r:Int)*(C:Int)=(rc:Int):=by rw [← T];simp
     have cD:rc+C≤N:=by rw [← NN.o,← T,← Nat.succ_mul];exact Nat.mul_le_mul_right _ oM
     have f4:IntKind.i64.wrap ((r:Int)*(C:Int))=(rc:Int):=by rw [bc];exact wJ
     obtain ⟨E,ax⟩:∃ x,rc+c=x:=⟨_,rfl⟩;have f5:IntKind.i64.wrap ((rc:Int)+(c:Int))=(E:Int):=(wJ).trans oM;have U:E < N:=oM;have G:=zH (show r*C+c=E by rw [T,ax]);have br:eN C k y s n r c t E=p:=by
      have dv:E / C=r:=by rw [← G.o,Nat.mul_comm,Nat.mul_add_div oM,Nat.div_eq_of_lt oM,Nat.add_zero]
      have md:E % C=c:=by rw [← G.o,Nat.mul_comm,Nat.mul_add_mod,Nat.mod_eq_of_lt oM]
      unfold eN;rw [dv,md,if_neg oM];exact HT.o E U oM oM oM oM
     obtain ⟨x0,u0,ad,bW,c5,c6,c7,-⟩:=g.o.cell rfl E U;rw [CY _ _ _ _ _ _ _ U,br] at ad;obtain ⟨bd,ce⟩:=bW;simp only [List.cons.injEq,and_true] at bd;subst bd;have bl:=sI ad;rw [cE] at ce;obtain ⟨S1,an⟩:∃ x,jB ((O.drop lo).take D) ((lb.drop P).take D) D=x:=⟨_,rfl⟩;obtain ⟨S2,ah⟩:∃ x,wrap32 S1=x:=⟨_,rfl⟩;obtain ⟨J,z⟩:∃ x,wrap32 (x0+S2)=x:=⟨_,rfl⟩;have FR:=zH (show iZ O lb M C E n=J by
      rw [HD.o,← z,← ah,← an,← bl,← G.o,← bg.o,← bx.o];exact (yE O lb M C r c p D oM).symm)
     obtain ⟨FS,FT,RE⟩:=zh3 (AZ O lb M C N (eN C k y s n r c t) E n) (xp C k y s n r c t bT bD bH hc.2) (show InK .i32 J by rw [cE,← z];exact eT _);have e6:IntKind.i32.wrap (x0+S2)=J:=by rw [IntKind.wrap_i32,← z];unfold wrap32;rfl
     have OA:Sl (ab .i16) wr (blo wr) (some ⟨ba,oa,none⟩) Y X O:=(HA.o.away l.o QM.o LA.o).more (fun b S=>by have:=LA.o;have:=l.o.size;unfold blo at *;omega);have OB:xA wr (some ⟨bz,oz,none⟩) nb cb lb:=(HB.o.away l.o QM.o LA.o).more (fun b S=>by have:=LA.o;have:=l.o.size;unfold blo at *;omega);have SA:=OA.sub lo D lo (X - lo) (by simp [ab]) oM oM oM;have SB:=OB.sub P D P (cb - P) (by simp [ab]) oM oM oM;have al:=zH (fun wq (h:Below wr.drew.heap.size wr.drew wq)=>CR _ _ D _ _ _ _ wq ((Old.now SA).fut (((qB _ _).drew).trans h)).all ((Old.now SB).fut (((qB _ _).drew).trans h)).all oM);rw [an,ah] at al;clear H ac bh bN hD T bc ax br ad bl an ah z OA OB SA SB;go_wp2_with fail;have z2:=f.o.drew.cell 2;have y2:=v.o.drew.cell 2;have s1:=d.o.drew.cell 1;have s2:=d.o.drew.cell 2;have s3:=d.o.drew.cell 3;have s4:=d.o.drew.cell 4;simp only [gX] at z2 y2 s1 s2 s3 s4;refine aP (fun w'=>w'.cell? ⟨q,E,none⟩=some (.int .i32 x0)∧w'.cell? ⟨Q,1,none⟩=some (.slice (some ⟨bz,oz,none⟩) nb cb)∧w'.cell? ⟨Q,2,none⟩=some (.int .i64 M)∧w'.cell? ⟨Q,3,none⟩=some (.int .i64 C)∧w'.cell? ⟨Q,4,none⟩=some (.slice (some ⟨q,0,none⟩) N N)∧w'.cell? ⟨w.heap.size,2,none⟩=some (.int .i64 p)∧w'.cell? ⟨w1.heap.size,2,none⟩=some (.int .i64 n)∧Below wr.drew.heap.size wr.drew w') 40 kM ?_ (fun a=>?_)
     ·exact ⟨au ((qB _ _).drew) c5,s1,s2,s3,s4,z2,y2,qB _ _⟩
     refine kT' 0 a ?_;refine kT' 1 a ?_;refine kT' 2 a ?_;refine kT' 3 a ?_;refine kT' 4 a ?_;refine kT' 5 a ?_;refine kT' 6 a ?_;refine kT' 7 a ?_;refine kT' 8 a ?_;refine kT' 9 a ?_;refine kT' 10 a ?_;refine kT' 11 a ?_;refine kT' 12 a ?_;refine kT' 13 a ?_;refine kT' 14 a ?_;refine kT' 15 a ?_;refine kT' 16 a ?_;refine kT' 17 a ?_;refine kT' 18 a ?_;refine kT' 19 a ?_;refine kT' 20 a ?_;refine kT' 21 a ?_;refine kT' 22 a ?_;refine kT' 23 a ?_;refine kT' 24 a ?_;refine kT' 25 a ?_;refine kT' 26 a ?_;refine kT' 27 a ?_;refine kT' 28 a ?_;refine kT' 29 a ?_;refine kT' 30 a ?_;refine kT' 31 a ?_;refine kT' 32 a ?_;refine kT' 33 a ?_;refine kT' 34 a ?_;refine kT' 35 a ?_;refine kT' 36 a ?_;refine kT' 37 a ?_;refine rT 38 (fun K hK=>?_);go_simp;refine qM (al.o _ a.2.2.2.2.2.2.2) fun wm S=>?_;refine xK hK (zR S a) fun a=>?_;clear hK K;refine kT' 39 a ?_;refine wpAnyT_tail _ _ rfl rfl kM ?_;have kd:=(show Below wr wr wr.drew from (qB _ _).drew).trans S;obtain ⟨G2,O2,F2,T2,P2⟩:=zh5 (dG l.o (bm (r:=some q) kd)) (g.o.below kd (lR _) (fun _ h=>h.elim)) (f.o.fut kd) (v.o.fut kd) (d.o.fut kd);clear a S kd c5 c6 c7 l g f v d;obtain ⟨x9,u9,-,-,c5,c6,c7,-⟩:=O2.o.cell rfl E U;go_wp2_with fail;obtain ⟨o3,g3⟩:=O2.o.set1 rfl E (.int .i32 J) J ⟨rfl,RE.o⟩ (fun _ h=>h.elim);have fs:=FS.o;rw [FR.o] at fs;rw [fs,← G.o,FT.o] at o3;rw [G.o] at o3;have qb:=QB.o;have qt:=QT.o;have pq:=PQ.o;exact ⟨⟨c+1,by omega,by omega,by go_num,dG G2.o g3,F2.o.rowR g3 (fun e=>by have:=sI e;omega),T2.o.rowR g3 (fun e=>by have:=sI e;omega),P2.o.rowR g3 (fun e=>by have:=sI e;omega),o3⟩,by simp [intOf];omega⟩
    ·obtain rfl:c=s:=oM;go_wp2;exact ⟨⟨r+1,by omega,by omega,by go_num,l.o,f.o,v.o,d.o,by rw [← zk];exact g.o⟩,by simp [intOf];omega⟩
  ·obtain rfl:r=F:=oM;go_wp2_with fail
   ((try simp only [Exit.inBlock,Exit.then]);refine bodyPost_end (results_none rfl _ _ _) rfl ?_)
   exact ⟨rfl,g.o,l.o⟩
def fE (M C r c m i:Nat):Nat:=if i / C < r then M else if i / C < r+8 then (if i % C < c then M else if i % C < c+8 then m else 0) else 0
theorem Bc (M C R r c m n t o i:Nat) (l:n=min (r+8) R) (h:t=min (c+8) C) (hi:i / C < R) (s:i % C < C):eN C r c t o n c (fE M C r c m) i=fE M C r c o i:=by
 unfold eN fE;by_cases a:i / C < r
 ·rw [if_neg oM,if_pos a,if_pos a]
 ·by_cases b:i / C < r+8
  ·rw [if_neg a,if_pos b,if_neg a,if_pos b];by_cases d:i % C < c
   ·rw [if_neg oM,if_pos d,if_pos d]
   ·by_cases e:i % C < c+8
    ·rw [if_pos oM,if_neg d,if_pos e]
    ·rw [if_neg oM,if_neg d,if_neg e,if_neg d,if_neg e]
  ·rw [if_neg oM,if_neg a,if_neg b,if_neg a,if_neg b]
theorem Bb (M C r c i:Nat):fE M C r c M i=fE M C r (c+8) 0 i:=by
 unfold fE;generalize i / C=a at *;generalize i % C=b at *
 repeat' split
 all_goals omega
theorem Bd (M C r c i:Nat) (e:i % C < c+8):fE M C r c M i=fE M C (r+8) 0 0 i:=by
 unfold fE;generalize i / C=a at *;generalize i % C=b at *
 repeat' split
 all_goals omega
theorem Ba (M C r c i:Nat) (t:i / C < r+8) (e:i % C < c+8):fE M C r c M i=M:=by
 unfold fE;generalize i / C=a at *;generalize i % C=b at *
 repeat' split
 all_goals omega
theorem yF (M C:Nat):fE M C 0 0 0=fun _=>0:=by
 funext i
 unfold fE;generalize i / C=a at *;generalize i % C=b at *
 repeat' split
 all_goals omega
def jD (R C M r c m:Nat):Nat:=(R - r)*((C+1)*(M+1))+(C - c)*(M+1)+(M - m)
theorem DM {R C M r c m e:Nat} (h:m < e) (t:e≤M):jD R C M r c e < jD R C M r c m:=by unfold jD;omega
theorem DL {R C M r c m e:Nat} (h:c < e) (t:e≤C):jD R C M r e 0 < jD R C M r c m:=by
 unfold jD;have:(C - e+1)*(M+1)≤(C - c)*(M+1):=Nat.mul_le_mul_right _ oM;rw [Nat.succ_mul] at this;omega
theorem DO {R C M r c m e:Nat} (h:r < e) (t:e≤R):jD R C M e 0 0 < jD R C M r c m:=by
 unfold jD;have:(R - e+1)*((C+1)*(M+1))≤(R - r)*((C+1)*(M+1)):=Nat.mul_le_mul_right _ oM;rw [Nat.succ_mul,Nat.succ_mul C] at this;rw [Nat.sub_zero,Nat.sub_zero,Nat.succ_mul C];omega
def oL (w:World) (g i:Nat):Nat:=match w.cell? ⟨g,i,none⟩ with|some (.int _ z)=>z.toNat|_=>0
theorem nO {w:World} {g i n:Nat} (h:w.cell? ⟨g,i,none⟩=some (.int .i64 n)):oL w g i=n:=by unfold oL;rw [h];rfl
def Be (R C M g:Nat) (w:World):Nat:=jD R C M (oL w g 0) (oL w g 1) (oL w g 2)
theorem mE {R C M g r c m:Nat} {w:World} {e:TypeId} (h:Blk w g e (sN r c m)):Be R C M g w=jD R C M r c m:=by
 unfold Be;rw [nO (h.cell 0),nO (h.cell 1),nO (h.cell 2)]
theorem iE {R C i N:Nat} (h:R*C=N) (hi:i < N):i / C < R∧i % C < C:=by
 have t:0 < C:=by
  rcases Nat.eq_zero_or_pos C with e|e
  ·subst e;omega
  ·exact e
 exact ⟨by rw [Nat.div_lt_iff_lt_mul t,h];exact hi,Nat.mod_lt _ t⟩
theorem C9 (A:QA) (L Y:Nat) (la:List Int) (B:QA) (nb cb:Nat) (lb:List Int) (R M C N:Nat) (w:World)
  (ha:Sl (ab .i16) w (blo w) A L Y la) (hb:xA w B nb cb lb) (I:L=R*M) (J:nb=C*M) (hN:R*C=N) (bR:1≤R∧R≤16384) (bC:1≤C∧C≤16384) (bM:1≤M∧M≤16384) :
  Calls prog 222 #[.slice A L Y,.slice B nb cb,.int .i64 R,.int .i64 M,.int .i64 C] w
   fun e w'=>∃ q,e=.returned (.slice (some ⟨q,0,none⟩) N N)∧Own (ab .i32) w' (fun _=>False) w.heap.size 21 (.slice (some ⟨q,0,none⟩) N N) N ((List.range N).map fun i=>iZ la lb M C i M)∧Below w w w':=by
 obtain ⟨HA,HB,U⟩:=zh3 ha hb hN;have n:=zW w;obtain ⟨v,ay,BL,n⟩:=nF n (sN R M C) 3;have MY:=zH (wN (some ⟨w.heap.size,0,none⟩) 3 3 [(R:Int),(M:Int),(C:Int)] v (Sl.lit (cs:=(sN R M C)) [(R:Int),(M:Int),(C:Int)] BL.o.heap rfl (by intro x hx;simp at hx;rcases hx with rfl|rfl|rfl <;> rw [ai] <;> omega) (by show _ < _;have:=BL.o.lt;omega) rfl rfl (by show 3≤maxLen;decide)) oM (by intro i hi;match i,hi with|0,_=>simp;omega|1,_=>simp;omega|2,_=>simp;omega));have bh:R*M≤16384*16384:=Nat.mul_le_mul bR.2 bM.2;have bn:C*M≤16384*16384:=Nat.mul_le_mul bC.2 bM.2;have bs:N≤16384*16384:=by rw [← hN];exact Nat.mul_le_mul bR.2 bC.2
 have e1:IntKind.i64.wrap ((R:Int)*(M:Int))=(L:Int):=by rw [I,Int.natCast_mul];exact wI _ (by rw [← Int.natCast_mul];omega)
 have e2:IntKind.i64.wrap ((C:Int)*(M:Int))=(nb:Int):=by rw [J,Int.natCast_mul];exact wI _ (by rw [← Int.natCast_mul];omega)
 have e3:IntKind.i64.wrap ((R:Int)*(C:Int))=(N:Int):=by rw [← hN,Int.natCast_mul];exact wI _ (by rw [← Int.natCast_mul];omega)
 obtain ⟨NA,NB⟩:=zh2 I J;clear ha hb I J hN;go_in;go_wp2_with fail;go_step3
 go_wp2_with (first|(go_at_call 246;refine MY.o.mono ?_;rintro e w9 ⟨rfl,rfl⟩)|(at_make;refine wpList_make (t:=ab .i32) (S:=fun _=>False) (base:=w.heap.size) rfl _ _ rfl iM .i64 .i64 _ _ N rfl rfl rfl rfl ?_ ?_ ?_ 0 ⟨rfl,by decide⟩ (fun _ h=>h.elim) ?_;rotate_right;intro j p hg))
 rotate_left
 ·omega
 ·unfold maxLen;omega
 ·rw [← ay];simp
 have kb:Below v v j:=(qB _ _).grown hg (lR _) sM;have l:=zH p;have ba:=kb.size;have l1:=n.o.size;have X:=zH (show w.heap.size≤v.heap.size∧v.heap.size < j.heap.size from ⟨l1,(p.lt _ rfl).2⟩);replace n:=zF kb n;clear kb;clear p hg ay BL MY;go_wp2_with fail;obtain ⟨w4,z,b,n⟩:=nF n #[.slice A L Y,.slice B nb cb,.int .i64 M,.int .i64 C,.slice (some ⟨v.heap.size,0,none⟩) N N] 357;replace l:=zH (l.o.below (show Below j j w4 by rw [← z];exact (qB _ _).alloc (lR _) _) (lR _) (fun _ h=>h.elim));have l4:w4.heap.size=j.heap.size+1:=by rw [← z];simp
 obtain ⟨w5,O,g,al⟩:=nB w4 (sN 0 0 0) 206;obtain ⟨n,b⟩:=uz2 al n b;clear al;replace l:=zH (l.o.below (show Below w4 w4 w5 by rw [← O];exact (qB _ _).alloc (lR _) _) (lR _) (fun _ h=>h.elim));rw [z,← l4,O];have a:=zH (show w.heap.size≤j.heap.size∧j.heap.size < w4.heap.size from ⟨by omega,by omega⟩);clear z O l4 ba l1;replace l:=zH (show Own (ab .i32) w5 (fun _=>False) w.heap.size 21 (.slice (some ⟨v.heap.size,0,none⟩) N N) N (fS la lb M C N (fE M C 0 0 0)) by rw [yF,yD];exact l.o);go_step3;go_wp2_with fail;clear e1 e2 e3;go_loopw [] (fun wr=>∃ r c m:Nat,r < R∧c < C∧m < M∧Far w wr∧Blk wr j.heap.size 357 #[.slice A L Y,.slice B nb cb,.int .i64 M,.int .i64 C,.slice (some ⟨v.heap.size,0,none⟩) N N]∧Blk wr w4.heap.size 206 (sN r c m)∧Own (ab .i32) wr (fun _=>False) w.heap.size 21 (.slice (some ⟨v.heap.size,0,none⟩) N N) N (fS la lb M C N (fE M C r c m))) (Be R C M w4.heap.size)
 case atStart=>exact ⟨0,0,0,bR.1,bC.1,bM.1,n.o,b.o,g.o,l.o⟩
 case round =>
  obtain ⟨r,c,m,hr,hc,hm,f0,f1,f2,f3⟩:=hrel;clear n b g l;obtain ⟨n,b,g,l⟩:=zh4 f0 f1 f2 f3;clear f0 f1 f2 f3;have Q:=g;obtain ⟨x0,x1,x2⟩:=uc3 g 0 1 2;simp only [gX] at x0 x1 x2;have g1:IntKind.i64.wrap ((r:Int)+8)=(r:Int)+8:=wJ;have g2:IntKind.i64.wrap ((c:Int)+8)=(c:Int)+8:=wJ;have g3:IntKind.i64.wrap ((m:Int)+8)=(m:Int)+8:=wJ;obtain ⟨f,ad⟩:∃ x,min (r+8) R=x:=⟨_,rfl⟩;obtain ⟨d,an⟩:∃ x,min (c+8) C=x:=⟨_,rfl⟩;obtain ⟨s,ah⟩:∃ x,min (m+8) M=x:=⟨_,rfl⟩;have j1:(if (R:Int) < (r:Int)+8 then (R:Int) else (r:Int)+8)=(f:Int):=by split <;> omega
  have j2:(if (C:Int) < (c:Int)+8 then (C:Int) else (c:Int)+8)=(d:Int):=by split <;> omega
  have j3:(if (M:Int) < (m:Int)+8 then (M:Int) else (m:Int)+8)=(s:Int):=by split <;> omega
  have j4:min ((r:Int)+8) (R:Int)=(f:Int):=oM;have j5:min ((c:Int)+8) (C:Int)=(d:Int):=oM;have j6:min ((m:Int)+8) (M:Int)=(s:Int):=oM;obtain ⟨P,F,HM⟩:=zh3 ad an ah;clear ad an ah;obtain ⟨w6,ax,BE,ac⟩:=nB wr (sN f d s) 206;obtain ⟨n,b,g⟩:=uz3 ac n b g;clear ac;have O6:=zH (l.o.below (show Below wr wr w6 by rw [← ax];exact (qB _ _).alloc (lR _) _) (lR _) (fun _ h=>h.elim));have PA:=zH (Bz j.heap.size v.heap.size w.heap.size w.heap.size R M C N r c m f d s A L Y la B nb cb lb (fE M C r c m) w6 ((Old.now HA.o).fut n.u).out ((Old.now HB.o).fut n.u).out (lR _) NA.o NB.o U.o (by have:=P.o;omega) (by have:=F.o;omega) (by have:=HM.o;omega) bR.2 bC.2 bM.2 b.o (by have:=X.o;omega) O6.o (fun i hi h1 h2 h3 h4=>by unfold fE;have:=P.o;have:=F.o;rw [if_neg oM,if_pos oM,if_neg oM,if_pos oM]));rw [kU (fun i hi=>by obtain ⟨z1,z2⟩:=iE U.o hi;exact Bc M C R r c m f d s i P.o.symm F.o.symm z1 z2)] at PA
  go_wp2_with (first|(refine lG g.o ?_)|(refine lG BE.o ?_))
  refine (PA.o).mono ?_;rintro e w7 ⟨rfl,E,Z⟩;have G:=zH E;have qb:=X.o;have bo:=a.o;obtain ⟨F7,P7,T7⟩:=zh3 (n.o.row Z (fun k h=>by have:=sI h;omega)) (b.o.rowR Z (fun e=>by have:=sI e;omega)) (g.o.rowR Z (fun e=>by have:=sI e;omega));have lq:v.heap.size < wr.heap.size:=(l.o.lt _ rfl).2;obtain ⟨MW,E7⟩:=zh2 (mE (R:=R) (C:=C) (M:=M) Q.o) (BE.o.rowR Z (fun e=>by have:=sI e;omega));have x0:=T7.o.cell 0;obtain ⟨y0,y1,y2⟩:=uc3 E7 0 1 2;simp only [gX] at x0 y0 y1 y2;clear E Z ax j1 j2 j3 qb bo lq n b g Q l O6 PA BE;by_cases a1:s < M
  ·have b1:(s:Int) < (M:Int):=oM
   go_wp2_with (refine wpList_store_one rfl 3 (.tmp 72) (.tmp 71) rfl w4.heap.size 2 (.int .i64 s) rfl rfl rfl rfl _ (sN r c m) (sN r c s) T7.o sM kM rfl ?_;intro w8 D y)
   have T:=F7.o.away y (by have:=a.o;omega);have W:=P7.o.rowR y (fun e=>by have:=sI e;have:=a.o;omega);have V:=G.o.flat y (.inr (by simp [Value.ownBlock];have:=a.o;have:=X.o;omega)) (fun _ h=>h);refine ⟨?_,?_⟩
   ·(repeat apply Exists.intro)
    refine ⟨?_,rfl⟩;exact ⟨r,c,s,hr,hc,a1,T,W,D,V⟩
   ·rw [mE (r:=r) (c:=c) (m:=s) D,MW.o];exact DM (by have:=HM.o;omega) oM
  ·obtain rfl:s=M:=by have:=HM.o;omega
   by_cases a2:d < C
   ·have b2:(d:Int) < (C:Int):=oM;have H:d=c+8:=by have:=F.o;omega
    rw [kU (fun i _=>Bb s C r c i),← H] at G;have be:=zH H;clear H
    go_wp2_with (refine sG (sN r d 0) T7.o ?_;intro w8 D y)
    have T:=F7.o.away y (by have:=a.o;omega);have W:=P7.o.rowR y (fun e=>by have:=sI e;have:=a.o;omega);have V:=G.o.flat y (.inr (by simp [Value.ownBlock];have:=a.o;have:=X.o;omega)) (fun _ h=>h);refine ⟨?_,?_⟩
    ·(repeat apply Exists.intro)
     refine ⟨?_,rfl⟩;exact ⟨r,d,0,hr,a2,by omega,T,W,D,V⟩
    ·rw [mE (r:=r) (c:=d) (m:=0) D,MW.o];exact DL (by have:=be.o;omega) oM
   ·obtain rfl:d=C:=by have:=F.o;omega
    by_cases a3:f < R
    ·have b3:(f:Int) < (R:Int):=oM;have K:f=r+8:=by have:=P.o;omega
     rw [kU (fun i hi=>Bd s d r c i (by have:=(iE U.o hi).2;have:=F.o;omega)),← K] at G;have bt:=zH K;clear K
     go_wp2_with (refine sG (sN f 0 0) T7.o ?_;intro w8 D y)
     have T:=F7.o.away y (by have:=a.o;omega);have W:=P7.o.rowR y (fun e=>by have:=sI e;have:=a.o;omega);have V:=G.o.flat y (.inr (by simp [Value.ownBlock];have:=a.o;have:=X.o;omega)) (fun _ h=>h);refine ⟨?_,?_⟩
     ·(repeat apply Exists.intro)
      refine ⟨?_,rfl⟩;exact ⟨f,0,0,a3,by omega,by omega,T,W,D,V⟩
     ·rw [mE (r:=f) (c:=0) (m:=0) D,MW.o];exact DO (by have:=bt.o;omega) oM
    ·obtain rfl:f=R:=by have:=P.o;omega
     rw [kU (fun i hi=>Ba s d r c i (by have:=(iE U.o hi).1;have:=P.o;omega) (by have:=(iE U.o hi).2;have:=F.o;omega))] at G;have p4:=P7.o.cell 4;simp only [gX] at p4;go_wp2_with fail
     (try rw [Exit.noGoto_ret])
     go_ret;exact ⟨_,rfl,G.o,F7.o.out⟩
theorem wU (H V C:Nat) (l w o:List Int) (a:Int) (K S P Wo Co M e N:Nat) (t:K*K*C=e) (n:0 < e) (h:M*Co=N) (s:0 < Co) :
  ((List.range N).map fun i=>wrap32 (((List.range N).map fun i=>iZ ((List.range (M*e)).map (dX H V C l a K S P Wo)) w e Co i e).getD i 0+o.getD (i % Co) 0))=(List.range N).map fun i=>wrap32 (o.getD (i % Co) 0+jR H V C l a w K S P (i % Co) (i / Co / Wo) (i / Co % Wo)):=by
 apply List.map_congr_left;intro i hi;have hi:=List.mem_range.1 hi;rw [gD,List.getElem?_map,List.getElem?_range hi];show wrap32 (iZ _ w e Co i e+_)=_;unfold iZ;rw [ij,Int.add_comm];congr 2;subst t;rw [← xw H V C l w a K S P Wo (i / Co) (i % Co) n];refine eF fun k r=>?_;unfold wO;congr 1;have d:i / Co < M:=by rw [Nat.div_lt_iff_lt_mul s,h];exact hi
 have:i / Co*(K*K*C)+k < M*(K*K*C):=by
  have:=Nat.mul_le_mul_right (K*K*C) (show i / Co+1≤M by omega);rw [Nat.succ_mul] at this;omega
 rw [gD,List.getElem?_map,List.getElem?_range this];rfl
theorem ji {t:Ty Int} {w:World} {B r:Nat} {E:TypeId} {q n:Nat} {l:List Int} (h:Own t w (fun _=>False) r E (.slice (some ⟨q,0,none⟩) n n) n l) (y:B≤q):Own t w (fun _=>False) B E (.slice (some ⟨q,0,none⟩) n n) n l:=by
 obtain ⟨vs,s,c⟩:=h.out;refine ⟨vs,⟨s.1,?_⟩,c⟩;rcases s.2 with ⟨d,i⟩|⟨g,a,o,e,p,m,f⟩
 ·exact .inl ⟨d,i⟩
 ·refine .inr ⟨g,a,o,e,?_,m,f⟩;injection e with e1 e2 e3
  injection e1 with e1
  injection e1 with e1
  omega
theorem rE (w:World) (v:Value) (t:TypeId):(w.alloc (.cells #[v] t)).cell? ⟨w.heap.size,0,none⟩=some v:=(Blk.now w w.heap.size t #[v] rfl).cell 0
theorem rS (B:QA) (nb cb:Nat) (w:World) :
  Calls prog 223 #[.slice B nb cb] w fun e w'=>e=.returned (.func (.func 248) #[] #[.pointer (some ⟨w.heap.size,0,none⟩)])∧w'=w.alloc (.cells #[.slice B nb cb] 42):=by
 go_in;go_wp2;go_ret;exact ⟨rfl,rfl⟩
theorem tO (t:ae) (A:QA) (n L:Nat) (d:af) (W:QA) (nw cw:Nat) (B:QA) (nb cb:Nat) (w:World) (ht:aw t) (hd:aQ d)
  (ha:xA w A n L t.data) (hw:xA w W nw cw d.w) (l:xB w B nb cb d.bias) (mw:nw≤2000∧nb≤200) (c1:t.ok=true) (c2:(bq t.h t.v t.c d).2=0) :
  Calls prog 193 #[.agg (tN t.h t.v t.c A n L),.agg (nD d W nw cw B nb cb)] w (aT .i32 (cg t d).1 (cg t d).2 w):=by
 obtain ⟨HT,HD,HA,HW,HB⟩:=zh5 ht hd ha hw l;have m1:n≤9223372036854775807:=lT ha.cap_le ha.max_le;have m2:nw≤9223372036854775807:=lT hw.cap_le hw.max_le;have m3:nb≤9223372036854775807:=lT l.cap_le l.max_le;clear ht hd ha hw l;have SZ:=zH (show nw≤1048576∧nb≤1048576 by omega);obtain ⟨H,V,C,K,S,P,Ho,Wo,Co,f,F,hx,lw,lb,ho,el,ev⟩:=kR c1 c2;rw [ev];have en:t.data.length=n:=HA.o.n_eq;rw [en] at f;have bx:=F.no;obtain ⟨N,al⟩:∃ N,Ho*Wo*Co=N:=⟨_,rfl⟩;obtain ⟨M,hM⟩:∃ M,Ho*Wo=M:=⟨_,rfl⟩;obtain ⟨G,O⟩:∃ x,K*K*C=x:=⟨_,rfl⟩;obtain ⟨NR,Z⟩:∃ x,M*G=x:=⟨_,rfl⟩;have ad:M*Co=N:=by rw [← hM];exact al
 have bo:nw=Co*G:=by rw [← HW.o.n_eq,lw,← O,Nat.mul_assoc Co,Nat.mul_assoc Co]
 have R:1≤G:=by rw [← O];exact Nat.mul_pos (Nat.mul_pos F.k1.1 F.k1.1) f.c1.1
 have an:G≤16384:=by
  have:1*G≤Co*G:=Nat.mul_le_mul_right _ F.co1.1;omega
 have ba:1≤M∧M≤16384:=by
  rw [← hM];have:=F.ho1;have:=F.wo1;exact ⟨Nat.mul_pos oM oM,lT (Nat.mul_le_mul F.ho1.2 this.2) oM⟩
 have ac:nb=Co:=by rw [← HB.o.n_eq];exact lb
 have bn:aH H V C d.k d.s d.p 1=(((Ho:Int),(Wo:Int),1),0):=by
  have e:=hx;unfold bq at e;obtain ⟨a,-,-,-⟩:=pY e rfl;rw [f.h,f.v,f.c] at a;exact zY a
 rw [al];have LC:=zH (wU H V C t.data d.w d.bias d.za K S P Wo Co M G N O R ad F.co1.1);obtain ⟨LM,Y⟩:∃ x,((List.range N).map fun i=>iZ ((List.range (M*G)).map (dX H V C t.data d.za K S P Wo)) d.w G Co i G)=x:=⟨_,rfl⟩;rw [Y,← ac] at LC;have bH:=zH Y;have CF:=zH (show (List.range N).map (fL t d Wo Co)=(List.range N).map fun i=>wrap32 (d.bias.getD (i % nb) 0+jR H V C t.data d.za d.w K S P (i % nb) (i / nb / Wo) (i / nb % Wo)) by
  apply List.map_congr_left;intro i _;unfold fL;rw [f.h,f.v,f.c,F.k,F.s,F.p,ac]
  rfl)
 rw [← LC.o] at CF;have be:decide (0 < ag (H:Int) (V:Int) (C:Int)∧ag (H:Int) (V:Int) (C:Int)=n)=true:=by rw [← HA.o.n_eq,← f.h,← f.v,← f.c];simpa [ae.ok] using c1
 rw [f.h,f.v,f.c] at hx;have bz:InK .i64 d.out:=HD.o.out;have RI:=zH (fun w=>av (H:Int) (V:Int) (C:Int) A n L w (by have:=f.h1;rw [ai];omega) (by have:=f.v1;rw [ai];omega) (by have:=f.c1;rw [ai];omega) (lT HA.o.cap_le HA.o.max_le));rw [be] at RI;have CI:=zH (fun w=>eh (H:Int) (V:Int) (C:Int) d W nw cw B nb cb w (by have:=f.h1;rw [ai];omega) (by have:=f.v1;rw [ai];omega) (by have:=f.c1;rw [ai];omega) HD.o.out HW.o.n_eq.symm HB.o.n_eq.symm SZ.o.1 SZ.o.2);rw [hx] at CI;obtain ⟨PO,U⟩:=zh2 (fun w ha=>vv t H V C A n L d W nw cw B nb cb Ho Wo Co K S P M G NR w ha f F HD.o.za bn hM O Z) (fun (Q:QA) (c:Nat) (w:World) ha l=>C9 Q NR c ((List.range (M*G)).map (dX H V C t.data d.za K S P Wo)) W nw cw d.w M G Co N w ha l Z.symm bo ad ba ⟨F.co1.1,by have:=F.co1.2;omega⟩ ⟨R,an⟩);rw [Y] at U;simp only [Z] at U;obtain ⟨NB,HO⟩:=zh2 (show 1≤nb∧N≤65536 by have:=F.co1;omega) ho;rw [f.h,f.v,f.c];clear c1 c2 hx lw lb ho el ev en bx al hM O Z ad bo R an ba ac bn Y be bz mw;have D:=zW w;obtain ⟨w1,w2,w3,bA,bB,bD,l1,l2,l3,E,z,J,bs⟩:=bk3 w (tN H V C A n L) 29 (nD d W nw cw B nb cb) 84 (tN 0 0 0 none 0 0) 255;replace D:=zF bs D;clear bs;go_in
 go_wp2_with (first|(refine lG E.o ?_)|(go_at_call 58;refine qM (RI.o _) fun w4 l=>?_;have l4:=l.size;obtain ⟨D,E,z,J⟩:=uz4 l D E z J;clear l bA bB bD)|(refine lP 23 (sN H V C) E.o ?_)|(refine lG z.o ?_))
 refine qM (CI.o _) fun w5 l=>?_;simp only [aY];have l5:=l.size;obtain ⟨D,E,z,J⟩:=uz4 l D E z J;clear l;obtain ⟨w6,bd,BD,bh⟩:=nB w5 (sN (Ho:Int) (Wo:Int) (Co:Int)) 23;obtain ⟨D,E,z,J⟩:=uz4 bh D E z J;clear bh;have bN:=zL bd
 go_wp2_with (first|(refine lG E.o ?_)|(refine lG z.o ?_))
 clear bd;refine (PO.o _ (zO HA D)).mono ?_;rintro e w7 ⟨Q,c,rfl,sq,l⟩;have NQ:=zH (show New w6 (ab .i16) w7 Q NR c _ from ⟨sq⟩);have l7:=l.size;clear sq;obtain ⟨D,E,z,J,BD⟩:=uz5 l D E z J BD;clear l;obtain ⟨w8,bl,BW,br⟩:=nB w7 #[.int .i64 (M:Int),.int .i64 (G:Int),.slice Q NR c] 322;obtain ⟨D,E,z,J,BD,NQ⟩:=uz6 br D E z J BD NQ;clear br;have bO:=zL bl;have MU:=zH (fun (wz:World) (hz:Below w8 w8 wz)=>U.o Q c wz (NQ.o.old.fut hz) (((Old.now HW.o).fut (D.o.fut hz).out).all));go_wp2_with fail;clear bl;go_cut [9] (fun b wx=>∃ g q,b=.pointer (some ⟨g,0,none⟩)∧Blk wx g 255 (tN (Ho:Int) (Wo:Int) (Co:Int) (some ⟨q,0,none⟩) N N)∧Own (ab .i32) wx (fun _=>False) w8.heap.size 21 (.slice (some ⟨q,0,none⟩) N N) N LM∧q ≠ g∧w8.heap.size≤q∧w8.heap.size≤g∧Below w8 w8 wx)
 case first =>
  refine wp_region_held_drew (S:=fun w'=>Below w8 w8 w') kM ?_ (fun r=>?_)
  ·exact (qB _ _).drew
  refine tkH 0 rfl (yB 23 (.tmp 6) w5 (fun w hs=>BD.o.later hs) underlying23) r ?_;try simp only [pX]
  refine kH' 1 r ?_;refine tkH 2 rfl (v:=?_) (Or.inl ⟨by rfl,?_⟩) r ?_;rotate_left
  ·intro wz m;have I:=(BW.o.later m).cell 2;simp only [gX] at I;go_simp;try with_reducible rfl
  try simp only [pX]
  refine kH' 3 r ?_;refine tkH 4 rfl (v:=?_) (Or.inl ⟨by rfl,?_⟩) r ?_;rotate_left
  ·intro wz m;have I:=(z.o.later m).cell 9;simp only [gX] at I;go_simp;try with_reducible rfl
  try simp only [pX]
  refine kH' 5 r ?_;refine tkH 6 rfl (v:=?_) (Or.inl ⟨by rfl,?_⟩) r ?_;rotate_left
  ·intro wz m;have I:=(BW.o.later m).cell 0;simp only [gX] at I;go_simp;try with_reducible rfl
  try simp only [pX]
  refine kH' 7 r ?_;refine tkH 8 rfl (v:=?_) (Or.inl ⟨by rfl,?_⟩) r ?_;rotate_left
  ·intro wz m;have I:=(BW.o.later m).cell 1;simp only [gX] at I;go_simp;try with_reducible rfl
  try simp only [pX]
  refine kH' 9 r ?_;refine tkH 10 rfl (v:=?_) (Or.inl ⟨by rfl,?_⟩) r ?_;rotate_left
  ·intro wz m;have I:=(z.o.later m).cell 6;simp only [gX] at I;rw [HO.o] at I;go_simp;try with_reducible rfl
  try simp only [pX]
  refine wpAnyH_ready (rs:=[11,13]) kM sM ?_;refine AllReadyH.cons rfl (fun K y=>?_) (AllReadyH.cons rfl (fun K y=>?_) AllReadyH.nil)
  ·go_simp;have sz:w8.heap.size≤(w8.drew).heap.size:=r.size;refine (MU.o (w8.drew) r).mono ?_;rintro e wa ⟨q,rfl,j,l⟩;have X:=zH j;have lq:=j.lt _ rfl;clear j;refine xK y (zR l r) fun r=>?_;clear y K;refine kH' 12 r ?_;refine rH 13 rfl (fun K y=>?_);go_simp;have zg:w8.heap.size≤wa.heap.size:=r.size;obtain ⟨l,BZ⟩:=zB wa (tN 0 0 0 none 0 0) 255;replace X:=zH (X.o.below l (lR _) (fun _ h=>h.elim));refine xK y (zR l r) fun r=>?_;clear y K;refine rH 14 rfl (fun K y=>?_);rw [if_pos (by rfl)];refine oG (tN (Ho:Int) (Wo:Int) (Co:Int) (some ⟨q,0,none⟩) N N) BZ.o ?_;intro wc BX gc;have T:q ≠ wa.heap.size:=by have:=lq;simp only [World.size_drew,World.size_alloc] at *;omega
   replace X:=zH (X.o.flat gc (.inr (by simp [Value.ownBlock];exact T)) (fun _ h=>h));have zq:w8.heap.size≤q:=by have:=lq;simp only [World.size_drew,World.size_alloc] at *;omega
   refine y.out _ _ (r.grown gc r.size (fun k h=>by have:=sI h;have:=zg;simp only [World.size_drew] at *;omega)) (fun r=>?_);clear y K;try simp only [pX]
   refine wpAnyH_done kM ?_ _;have FZ:=r;go_wp2_with fail;go_meet
   case rel=>exact ⟨_,_,rfl,BX,ji X.o zq,T,zq,zg,FZ⟩
  ·go_simp;have zg:w8.heap.size≤w8.heap.size:=r.size;have l:Below w8.drew.heap.size w8.drew (w8.drew.alloc (.cells (tN 0 0 0 none 0 0) 255)):=(qB _ _).alloc (lR _) _;have BZ:=zH (Blk.now w8.drew w8.heap.size 255 (tN 0 0 0 none 0 0) rfl);refine xK y (by first|exact zR l r|exact ⟨au l r.1,aa l r.2⟩|exact aa l r) fun r=>?_;clear y K;refine rH 11 rfl (fun K y=>?_);go_simp;have sz:w8.heap.size≤(w8.drew.alloc (.cells (tN 0 0 0 none 0 0) 255)).heap.size:=r.size;refine (MU.o (w8.drew.alloc (.cells (tN 0 0 0 none 0 0) 255)) r).mono ?_;rintro e wa ⟨q,rfl,j,l⟩;have X:=zH j;have lq:=j.lt _ rfl;clear j;replace BZ:=zH (BZ.o.later l);refine xK y (by first|exact zR l r|exact ⟨au l r.1,aa l r.2⟩|exact aa l r) fun r=>?_;clear y K;refine kH' 12 r ?_;refine rH 14 rfl (fun K y=>?_);rw [if_pos (by rfl)];refine oG (tN (Ho:Int) (Wo:Int) (Co:Int) (some ⟨q,0,none⟩) N N) BZ.o ?_;intro wc BX gc;have T:q ≠ w8.heap.size:=by have:=lq;simp only [World.size_drew,World.size_alloc] at *;omega
   replace X:=zH (X.o.flat gc (.inr (by simp [Value.ownBlock];exact T)) (fun _ h=>h));have zq:w8.heap.size≤q:=by have:=lq;simp only [World.size_drew,World.size_alloc] at *;omega
   refine y.out _ _ (r.grown gc r.size (fun k h=>by have:=sI h;have:=zg;simp only [World.size_drew] at *;omega)) (fun r=>?_);clear y K;try simp only [pX]
   refine wpAnyH_done kM ?_ _;have FZ:=r;go_wp2_with fail;go_meet
   case rel=>exact ⟨_,_,rfl,BX,ji X.o zq,T,zq,zg,FZ⟩
 case rest =>
  obtain ⟨g,q,rfl,bg,j,bM,zq,zg,b8⟩:=hcut;obtain ⟨w9,rfl⟩:∃ x,x=wc:=⟨_,rfl⟩;obtain ⟨BG,ON⟩:=zh2 bg j;have lq:=j.lt _ rfl;have lg:=bg.lt;have bR:=b8.size;obtain ⟨B8,bw,F8⟩:=zh3 b8 z.o D.o;clear bg j;obtain ⟨D,E,z,J,BD,BW⟩:=uz6 b8 D E z J BD BW;clear b8;clear PO U MU RI CI;go_wp2_with fail;refine wp_region_held_drew (S:=fun w'=>Blk w' g 255 (tN (Ho:Int) (Wo:Int) (Co:Int) (some ⟨q,0,none⟩) N N)∧Below w8 w8 w') kM ?_ (fun r=>?_)
  ·exact ⟨BG.o.drew,B8.o.drew⟩
  refine kH' 0 r ?_;refine tkH 1 rfl (v:=?_) (Or.inl ⟨by rfl,?_⟩) r ?_;rotate_left
  ·intro wz m;have I:=(bw.o.later m.2).cell 10;simp only [gX] at I;go_simp;try with_reducible rfl
  try simp only [pX]
  refine kH' 3 r ?_;refine tkH 4 rfl (v:=?_) (Or.inl ⟨by rfl,?_⟩) r ?_;rotate_left
  ·intro wz m;have I:=m.1.cell 3;simp only [gX] at I;go_simp;try with_reducible rfl
  try simp only [pX]
  refine rH 2 rfl (fun K y=>?_);go_simp;refine qM (rS B nb cb _) fun wa ay=>?_;have l:Below w9.drew.heap.size w9.drew wa:=by rw [ay];exact (qB _ _).alloc (lR _) _
  have OD:=zH ((ON.o.heap (w':=w9.drew) rfl).below l (lR _) (fun _ h=>h.elim));have CP:wa.cell? ⟨w9.heap.size,0,none⟩=some (.slice B nb cb):=by rw [ay];exact rE _ _ _
  clear ay;refine xK y (zR l r) fun r=>?_;clear y K;refine rH 5 rfl (fun K y=>?_);go_simp;refine (wu ⟨w9.heap.size,0,none⟩ B nb cb d.bias w.heap.size w8.heap.size q N LM wa ((Old.now HB.o).fut (F8.o.fut r.2).out).out F8.o.size CP (by show w9.heap.size ≠ q;omega) OD.o NB.o.1 NB.o.2).mono ?_;rintro e wb ⟨rfl,ah,gb⟩;have OB:=zH ah;clear ah;have ax:=r.1.rowR gb (fun e=>by have:=sI e;omega);refine y.out _ _ ⟨ax,r.2.grown gb r.2.size (fun k h=>by have:=sI h;omega)⟩ (fun r=>?_);clear y K;try simp only [pX]
  refine wpAnyH_done kM ?_ _;obtain ⟨bb,bp,BG⟩:=zh3 (J.o.drew.later l |>.rowR gb (fun e=>by have:=sI e;omega)) ((show Far w w8 from F8.o).fut r.2) r.1;clear l gb ax OD CP;rw [← CF.o] at OB
  go_wp2_with (first|(refine lB 255 (.tmp 9) g BG.o underlying255 ?_)|(refine sG (tN (Ho:Int) (Wo:Int) (Co:Int) (some ⟨q,0,none⟩) N N) bb.o ?_;intro bT bc bt))
  have e2:=OB.o.flat bt (.inr (by simp [Value.ownBlock];omega)) (fun _ h=>h);refine rG bc ?_;have FE:=bp.o.away bt oM;obtain ⟨A2,c2,hv,s⟩:=e2.sl (S':=bin w.heap.size _) dM (fun b h1 h2=>⟨by omega,h2⟩) (fun b h=>h.elim);injection hv with hv1 hv2 hv3
  subst hv1 hv3;exact ⟨_,_,_,rfl,s,FE.out⟩
theorem vn (t:ae) (A:QA) (n a:Nat) (d:af) (W:QA) (nw i:Nat) (B:QA) (nb cb:Nat) (w:World) (f:aw t) (m:aQ d)
  (r:xA w A n a t.data) (y:xA w W nw i d.w) (l:xB w B nb cb d.bias) (p:nw≤2000∧nb≤200) :
  Calls prog 193 #[.agg (tN t.h t.v t.c A n a),.agg (nD d W nw i B nb cb)] w (aT .i32 (cg t d).1 (cg t d).2 w):=by
 by_cases o:t.ok=true
 ·by_cases s:(bq t.h t.v t.c d).2=0
  ·exact tO t A n a d W nw i B nb cb w f m r y l p o s
  ·have e:cg t d=(ak,(bq t.h t.v t.c d).2):=by unfold cg;rw [if_pos o,if_neg s]
   rw [e];exact tM t A n a d W nw i B nb cb w f m r y l oM o s
 ·have e:cg t d=(ak,5):=by unfold cg;rw [if_neg o]
  rw [e];exact vo t A n a d W nw i B nb cb w f m r y l o
end Go.Proofs.YtbecbfpoahhpnaaGreat
