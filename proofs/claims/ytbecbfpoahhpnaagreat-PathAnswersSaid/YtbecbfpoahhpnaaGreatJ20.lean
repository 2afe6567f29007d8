/- The shape that a node makes (layers 18, 25): kinds.Shape. -/
import Derived.Test.YtbecbfpoahhpnaaGreatJ19
set_option linter.unusedVariables false
set_option linter.unusedSimpArgs false
set_option maxRecDepth 100000
set_option maxHeartbeats 16000000
namespace Go.Proofs.YtbecbfpoahhpnaaGreat
open Go.RowKit Go.ChangeShapes Go.WideShapes Tryz
theorem o6 (h v c S T Q:Int) (d:af) (W:QA) (nw U:Nat) (B:QA) (nb cb:Nat) (w:World) (J:InK .i64 h) (K:InK .i64 v) (D:InK .i64 c) (t:InK .i64 d.out) (P:InK .i64 d.p) (m:nw=d.w.length) (l:nb=d.bias.length) (O:nw≤1048576) (N:nb≤1048576) (V:1≤d.kind∧d.kind≤9) :
  Calls prog 108 #[.agg (nD d W nw U B nb cb),.agg (sN h v c),.agg (sN S T Q)] w fun e w'=>e=aY (aE h v c S T Q d)∧Below w w w':=by
 obtain ⟨r,hr⟩:∃ r,aE h v c S T Q d=r:=⟨_,rfl⟩;rw [hr];unfold aE at hr;have I:=zH hr.symm;clear hr;have y:=zW w;obtain ⟨w1,w2,w3,w4,E,F,G,H,l1,l2,l3,l4,b,f,C,g,an⟩:=bk4 w (nD d W nw U B nb cb) 84 (sN h v c) 23 (sN S T Q) 23 (sN 0 0 0) 23;replace y:=zF an y;clear an;have X:=b.o.cell 0;rcases (show d.kind=1 ∨ d.kind=2 ∨ d.kind=3 ∨ d.kind=4 ∨ d.kind=5 ∨ d.kind=6 ∨ d.kind=7 ∨ d.kind=8 ∨ d.kind=9 by omega) with e|e|e|e|e|e|e|e|e
 ·clear V;have k1:(d.kind == 1)=true:=by simp [e]
  have k2:(d.kind == 2)=false:=by simp [e]
  have Y:(d.kind == 3)=false:=by simp [e]
  have Z:(d.kind == 4)=false:=by simp [e]
  have k5:(d.kind == 5)=false:=by simp [e]
  have k6:(d.kind == 6)=false:=by simp [e]
  have k7:(d.kind == 7)=false:=by simp [e]
  have k8:(d.kind == 8)=false:=by simp [e]
  have k9:(d.kind == 9)=false:=by simp [e]
  have i:=zH (fun w=>eh h v c d W nw U B nb cb w J K D t m l O N);obtain ⟨⟨⟨q,z,A⟩,M⟩,n⟩:∃ x,bq h v c d=x:=⟨_,rfl⟩;have R:=zH (show r=((q,z,A),M) by rw [I.o,← n];simp [e]);rw [n] at i;simp only [aY] at i;clear I n e J K D t P m l O N;go_in
  go_wp2_with (first
   | (refine lG f.o ?_)
   | (refine lG b.o ?_))
  clear E F G H X;refine qM (i.o _) fun w5 j=>?_;obtain ⟨y,b,f,C,g⟩:=uz5 j y b f C g;clear j
  go_wp2_with (first
   | (refine sG (sN q z A) g.o ?_;intro w7 a L))
  refine rG a ?_;exact ⟨by rw [R.o];rfl,(y.o.away L oM).out⟩
 ·clear V;have k1:(d.kind == 1)=false:=by simp [e]
  have k2:(d.kind == 2)=true:=by simp [e]
  have Y:(d.kind == 3)=false:=by simp [e]
  have Z:(d.kind == 4)=false:=by simp [e]
  have k5:(d.kind == 5)=false:=by simp [e]
  have k6:(d.kind == 6)=false:=by simp [e]
  have k7:(d.kind == 7)=false:=by simp [e]
  have k8:(d.kind == 8)=false:=by simp [e]
  have k9:(d.kind == 9)=false:=by simp [e]
  have i:=zH (fun w=>il h v c d W nw U B nb cb w J K D t m l O N);obtain ⟨⟨⟨q,z,A⟩,M⟩,n⟩:∃ x,bF h v c d=x:=⟨_,rfl⟩;have R:=zH (show r=((q,z,A),M) by rw [I.o,← n];simp [e]);rw [n] at i;simp only [aY] at i;clear I n e J K D t P m l O N;go_in
  go_wp2_with (first
   | (refine lG f.o ?_)
   | (refine lG b.o ?_))
  clear E F G H X;refine qM (i.o _) fun w5 j=>?_;obtain ⟨y,b,f,C,g⟩:=uz5 j y b f C g;clear j
  go_wp2_with (first
   | (refine sG (sN q z A) g.o ?_;intro w7 a L))
  refine rG a ?_;exact ⟨by rw [R.o];rfl,(y.o.away L oM).out⟩
 ·clear V;have k1:(d.kind == 1)=false:=by simp [e]
  have k2:(d.kind == 2)=false:=by simp [e]
  have Y:(d.kind == 3)=true:=by simp [e]
  have Z:(d.kind == 4)=false:=by simp [e]
  have k5:(d.kind == 5)=false:=by simp [e]
  have k6:(d.kind == 6)=false:=by simp [e]
  have k7:(d.kind == 7)=false:=by simp [e]
  have k8:(d.kind == 8)=false:=by simp [e]
  have k9:(d.kind == 9)=false:=by simp [e]
  have i:=zH (fun w=>uQ h v c d W nw U B nb cb w J K D t m l O N);obtain ⟨⟨⟨q,z,A⟩,M⟩,n⟩:∃ x,d9 h v c d=x:=⟨_,rfl⟩;have R:=zH (show r=((q,z,A),M) by rw [I.o,← n];simp [e]);rw [n] at i;simp only [aY] at i;clear I n e J K D t P m l O N;go_in
  go_wp2_with (first
   | (refine lG f.o ?_)
   | (refine lG b.o ?_))
  clear E F G H X;refine qM (i.o _) fun w5 j=>?_;obtain ⟨y,b,f,C,g⟩:=uz5 j y b f C g;clear j
  go_wp2_with (first
   | (refine sG (sN q z A) g.o ?_;intro w7 a L))
  refine rG a ?_;exact ⟨by rw [R.o];rfl,(y.o.away L oM).out⟩
 ·clear V;have k1:(d.kind == 1)=false:=by simp [e]
  have k2:(d.kind == 2)=false:=by simp [e]
  have Y:(d.kind == 3)=false:=by simp [e]
  have Z:(d.kind == 4)=true:=by simp [e]
  have k5:(d.kind == 5)=false:=by simp [e]
  have k6:(d.kind == 6)=false:=by simp [e]
  have k7:(d.kind == 7)=false:=by simp [e]
  have k8:(d.kind == 8)=false:=by simp [e]
  have k9:(d.kind == 9)=false:=by simp [e]
  have i:=zH (fun w=>fG h v c d.k d.s d.p c w J K D D);obtain ⟨n3,n4,n5⟩:=uc3 b 3 4 5;have a2:=f.o.cell 2;obtain ⟨⟨⟨q,z,A⟩,M⟩,n⟩:∃ x,aH h v c d.k d.s d.p c=x:=⟨_,rfl⟩;have R:=zH (show r=((q,z,A),M) by rw [I.o,← n];simp [e]);rw [n] at i;simp only [aY] at i;clear I n e J K D t P m l O N;go_in
  go_wp2_with (first
   | (refine lG f.o ?_))
  clear E F G H X n3 n4 n5 a2;refine qM (i.o _) fun w5 j=>?_;obtain ⟨y,b,f,C,g⟩:=uz5 j y b f C g;clear j
  go_wp2_with (first
   | (refine sG (sN q z A) g.o ?_;intro w7 a L))
  refine rG a ?_;exact ⟨by rw [R.o];rfl,(y.o.away L oM).out⟩
 ·clear V;have k1:(d.kind == 1)=false:=by simp [e]
  have k2:(d.kind == 2)=false:=by simp [e]
  have Y:(d.kind == 3)=false:=by simp [e]
  have Z:(d.kind == 4)=false:=by simp [e]
  have k5:(d.kind == 5)=true:=by simp [e]
  have k6:(d.kind == 6)=false:=by simp [e]
  have k7:(d.kind == 7)=false:=by simp [e]
  have k8:(d.kind == 8)=false:=by simp [e]
  have k9:(d.kind == 9)=false:=by simp [e]
  have i:=zH (fun w=>fG h v c d.k d.s d.p c w J K D D);obtain ⟨n3,n4,n5⟩:=uc3 b 3 4 5;have a2:=f.o.cell 2;obtain ⟨⟨⟨q,z,A⟩,M⟩,n⟩:∃ x,aH h v c d.k d.s d.p c=x:=⟨_,rfl⟩;have R:=zH (show r=((q,z,A),M) by rw [I.o,← n];simp [e]);rw [n] at i;simp only [aY] at i;clear I n e J K D t P m l O N;go_in
  go_wp2_with (first
   | (refine lG f.o ?_))
  clear E F G H X n3 n4 n5 a2;refine qM (i.o _) fun w5 j=>?_;obtain ⟨y,b,f,C,g⟩:=uz5 j y b f C g;clear j
  go_wp2_with (first
   | (refine sG (sN q z A) g.o ?_;intro w7 a L))
  refine rG a ?_;exact ⟨by rw [R.o];rfl,(y.o.away L oM).out⟩
 ·clear V;have k1:(d.kind == 1)=false:=by simp [e]
  have k2:(d.kind == 2)=false:=by simp [e]
  have Y:(d.kind == 3)=false:=by simp [e]
  have Z:(d.kind == 4)=false:=by simp [e]
  have k5:(d.kind == 5)=false:=by simp [e]
  have k6:(d.kind == 6)=true:=by simp [e]
  have k7:(d.kind == 7)=false:=by simp [e]
  have k8:(d.kind == 8)=false:=by simp [e]
  have k9:(d.kind == 9)=false:=by simp [e]
  have i:=zH (fun w=>fP h v c S T Q d W nw U B nb cb w J K D t P m l O N oM);obtain ⟨⟨⟨q,z,A⟩,M⟩,n⟩:∃ x,cG d.kind h v c S T Q d.p=x:=⟨_,rfl⟩;have R:=zH (show r=((q,z,A),M) by rw [I.o,← n];simp [e]);rw [n] at i;simp only [aY] at i;clear I n e J K D t P m l O N;go_in
  go_wp2_with (first
   | (refine lG f.o ?_)
   | (refine lG C.o ?_)
   | (refine lG b.o ?_))
  clear E F G H X;refine qM (i.o _) fun w5 j=>?_;obtain ⟨y,b,f,C,g⟩:=uz5 j y b f C g;clear j
  go_wp2_with (first
   | (refine sG (sN q z A) g.o ?_;intro w7 a L))
  refine rG a ?_;exact ⟨by rw [R.o];rfl,(y.o.away L oM).out⟩
 ·clear V;have k1:(d.kind == 1)=false:=by simp [e]
  have k2:(d.kind == 2)=false:=by simp [e]
  have Y:(d.kind == 3)=false:=by simp [e]
  have Z:(d.kind == 4)=false:=by simp [e]
  have k5:(d.kind == 5)=false:=by simp [e]
  have k6:(d.kind == 6)=false:=by simp [e]
  have k7:(d.kind == 7)=true:=by simp [e]
  have k8:(d.kind == 8)=false:=by simp [e]
  have k9:(d.kind == 9)=false:=by simp [e]
  have i:=zH (fun w=>fP h v c S T Q d W nw U B nb cb w J K D t P m l O N oM);obtain ⟨⟨⟨q,z,A⟩,M⟩,n⟩:∃ x,cG d.kind h v c S T Q d.p=x:=⟨_,rfl⟩;have R:=zH (show r=((q,z,A),M) by rw [I.o,← n];simp [e]);rw [n] at i;simp only [aY] at i;clear I n e J K D t P m l O N;go_in
  go_wp2_with (first
   | (refine lG f.o ?_)
   | (refine lG C.o ?_)
   | (refine lG b.o ?_))
  clear E F G H X;refine qM (i.o _) fun w5 j=>?_;obtain ⟨y,b,f,C,g⟩:=uz5 j y b f C g;clear j
  go_wp2_with (first
   | (refine sG (sN q z A) g.o ?_;intro w7 a L))
  refine rG a ?_;exact ⟨by rw [R.o];rfl,(y.o.away L oM).out⟩
 ·clear V;have k1:(d.kind == 1)=false:=by simp [e]
  have k2:(d.kind == 2)=false:=by simp [e]
  have Y:(d.kind == 3)=false:=by simp [e]
  have Z:(d.kind == 4)=false:=by simp [e]
  have k5:(d.kind == 5)=false:=by simp [e]
  have k6:(d.kind == 6)=false:=by simp [e]
  have k7:(d.kind == 7)=false:=by simp [e]
  have k8:(d.kind == 8)=true:=by simp [e]
  have k9:(d.kind == 9)=false:=by simp [e]
  have i:=zH (fun w=>fP h v c S T Q d W nw U B nb cb w J K D t P m l O N oM);obtain ⟨⟨⟨q,z,A⟩,M⟩,n⟩:∃ x,cG d.kind h v c S T Q d.p=x:=⟨_,rfl⟩;have R:=zH (show r=((q,z,A),M) by rw [I.o,← n];simp [e]);rw [n] at i;simp only [aY] at i;clear I n e J K D t P m l O N;go_in
  go_wp2_with (first
   | (refine lG f.o ?_)
   | (refine lG C.o ?_)
   | (refine lG b.o ?_))
  clear E F G H X;refine qM (i.o _) fun w5 j=>?_;obtain ⟨y,b,f,C,g⟩:=uz5 j y b f C g;clear j
  go_wp2_with (first
   | (refine sG (sN q z A) g.o ?_;intro w7 a L))
  refine rG a ?_;exact ⟨by rw [R.o];rfl,(y.o.away L oM).out⟩
 ·clear V;have k1:(d.kind == 1)=false:=by simp [e]
  have k2:(d.kind == 2)=false:=by simp [e]
  have Y:(d.kind == 3)=false:=by simp [e]
  have Z:(d.kind == 4)=false:=by simp [e]
  have k5:(d.kind == 5)=false:=by simp [e]
  have k6:(d.kind == 6)=false:=by simp [e]
  have k7:(d.kind == 7)=false:=by simp [e]
  have k8:(d.kind == 8)=false:=by simp [e]
  have k9:(d.kind == 9)=true:=by simp [e]
  have i:=zH (fun w=>fP h v c S T Q d W nw U B nb cb w J K D t P m l O N oM);obtain ⟨⟨⟨q,z,A⟩,M⟩,n⟩:∃ x,cG d.kind h v c S T Q d.p=x:=⟨_,rfl⟩;have R:=zH (show r=((q,z,A),M) by rw [I.o,← n];simp [e]);rw [n] at i;simp only [aY] at i;clear I n e J K D t P m l O N;go_in
  go_wp2_with (first
   | (refine lG f.o ?_)
   | (refine lG C.o ?_)
   | (refine lG b.o ?_))
  clear E F G H X;refine qM (i.o _) fun w5 j=>?_;obtain ⟨y,b,f,C,g⟩:=uz5 j y b f C g;clear j
  go_wp2_with (first
   | (refine sG (sN q z A) g.o ?_;intro w7 a L))
  refine rG a ?_;exact ⟨by rw [R.o];rfl,(y.o.away L oM).out⟩
open Fx
theorem dG {w o i:World} {r:Option Nat} (h:w.grownBy o r) (e:o.grownBy i r):w.grownBy i r :=
 ⟨e.os.trans h.os,e.tape.trans h.tape,e.output.trans h.output,lT h.size e.size,fun k a t=>(e.block k (Nat.lt_of_lt_of_le a h.size) t).trans (h.block k a t)⟩
theorem oU (w:World) (r:Option Nat):w.grownBy w.drew r:=⟨rfl,rfl,rfl,lR _,fun _ _ _=>rfl⟩
theorem oV (w:World) (r:Option Nat):w.grownBy w r:=⟨rfl,rfl,rfl,lR _,fun _ _ _=>rfl⟩
def stM (f g:Nat → Int) (n k:Nat):List Int:=(List.range n).map fun i=>if i < k then f i else g i
theorem Cm (f g:Nat → Int) (n:Nat):stM f g n 0=(List.range n).map g:=by unfold stM;apply List.map_congr_left;intro i _;rw [if_neg oM]
theorem Dn (f g:Nat → Int) (n:Nat):stM f g n n=(List.range n).map f:=by unfold stM;apply List.map_congr_left;intro i hi;rw [if_pos (List.mem_range.1 hi)]
theorem Ec (f g:Nat → Int) (n k:Nat) (h:k < n):(stM f g n k)[k]?=some (g k):=by
 unfold stM;rw [List.getElem?_map,List.getElem?_range h];simp
theorem Do (f g:Nat → Int) (n k:Nat):(stM f g n k).set k (f k)=stM f g n (k+1):=by
 unfold stM;apply List.ext_getElem sM;intro i t a;rw [List.getElem_set];simp only [List.getElem_map,List.getElem_range];by_cases e:k=i
 ·subst e;rw [if_pos rfl,if_pos oM]
 ·rw [if_neg e];by_cases h:i < k
  ·rw [if_pos h,if_pos oM]
  ·rw [if_neg h,if_neg oM]
theorem wT {l:List Int} {n:Nat} (h:l.length=n):(List.range n).map (fun i=>l.getD i 0)=l:=by
 subst h;apply List.ext_getElem sM;intro i e t;simp at e;simp [gD,List.getElem?_eq_getElem e]
theorem wu (p:Addr) (B:QA) (nb cb:Nat) (c:List Int) (m base q N:Nat) (l:List Int) (w:World) (F:Sl (ab .i32) w (blo m) B nb cb c) (hm:m≤base) (G:w.cell? p=some (.slice B nb cb)) (C:p.block ≠ q)
  (t:Own (ab .i32) w (fun _=>False) base 21 (.slice (some ⟨q,0,none⟩) N N) N l) (I:1≤nb) (hN:N≤65536) :
  Calls prog 248 #[.slice (some ⟨q,0,none⟩) N N,.pointer (some p)] w fun e w'=>e=.returned (.tuple #[])∧Own (ab .i32) w' (fun _=>False) base 21 (.slice (some ⟨q,0,none⟩) N N) N ((List.range N).map fun i=>wrap32 (l.getD i 0+c.getD (i % nb) 0))∧w.grownBy w' (some q):=by
 obtain ⟨HB,HP⟩:=zh2 F G;have W:=lT F.cap_le F.max_le;have an:nb≤9223372036854775807:=W;have lq:=t.lt _ rfl;have PQ:=zH C;have f:=t.length dM;have v:=zH (show Own (ab .i32) w (fun _=>False) base 21 (.slice (some ⟨q,0,none⟩) N N) N (stM (fun i=>wrap32 (l.getD i 0+c.getD (i % nb) 0)) (fun i=>l.getD i 0) N 0) by rw [Cm,wT f];exact t);have nz:¬ nb=0:=oM;have ah:(nb:Int) ≠ 0:=oM;clear F G t f C W;go_in;go_wp2;go_loopw [6] (fun O wr=>∃ k:Nat,k≤N∧O=.int .i64 k∧w.grownBy wr (some q)∧Own (ab .i32) wr (fun _=>False) base 21 (.slice (some ⟨q,0,none⟩) N N) N (stM (fun i=>wrap32 (l.getD i 0+c.getD (i % nb) 0)) (fun i=>l.getD i 0) N k)) (fun O _=>N - (intOf O).toNat)
 case atStart=>exact ⟨0,zl _,rfl,oV _ _,v.o⟩
 case round =>
  obtain ⟨k,hk,rfl,V,A⟩:=hrel;clear v;obtain ⟨j,v⟩:=zh2 V A;clear V A;by_cases b:k < N
  ·have p1:(k:Int) < (N:Int):=oM;obtain ⟨d,n⟩:∃ x,k % nb=x:=⟨_,rfl⟩;have H:d < nb:=by rw [← n];exact Nat.mod_lt _ I
   have d1:(k:Int).tmod (nb:Int)=(d:Int):=by rw [← n,Int.tmod_eq_emod_of_nonneg oM];simp
   have d2:(k:Int) % (nb:Int)=(d:Int):=by rw [← n];simp
   have g1:IntKind.i64.wrap (d:Int)=(d:Int):=wJ;have G:wr.cell? p=some (.slice B nb cb):=cM j.o HP.o (fun e=>PQ.o (sI e));obtain ⟨bz,oz,rfl,M,-,T,iy⟩:=HB.o.int_at d H;have z:wr.cell? ⟨bz,oz+d,none⟩=some (.int .i32 (c.getD d 0)):=cM j.o T (fun e=>by have:=sI e;simp only at this;unfold blo at M;omega);obtain ⟨Y,u0,g,J,Q,R,S,-⟩:=v.o.cell rfl k b;rw [Ec _ _ _ _ b] at g;obtain ⟨D,K⟩:=J;simp only [List.cons.injEq,and_true] at D;subst D;have E:=sI g;have FS:=zH (Do (fun i=>wrap32 (l.getD i 0+c.getD (i % nb) 0)) (fun i=>l.getD i 0) N k);obtain ⟨y,L⟩:∃ x,c.getD d 0=x:=⟨_,rfl⟩;rw [L] at z;obtain ⟨s,a⟩:∃ r,wrap32 (Y+y)=r:=⟨_,rfl⟩;have e6:IntKind.i32.wrap (Y+y)=s:=by rw [IntKind.wrap_i32,← a];unfold wrap32;rfl
   obtain ⟨Z,RE⟩:=zh2 (show wrap32 (l.getD k 0+c.getD (k % nb) 0)=s by rw [n,L,E,a]) (show InK .i32 s by rw [cE,← a];exact eT _);clear n L a g E T K;go_wp2_with fail;go_still_tail 12,kM;change wpList _ _ _ _ _ wr.drew;obtain ⟨G2,P⟩:=zh2 (dG j.o (oU wr (some q))) (v.o.heap (w':=wr.drew) rfl);clear Q R S z G v j;generalize wr.drew=wy at *;obtain ⟨x9,u9,-,-,Q,R,S,-⟩:=P.o.cell rfl k b;go_wp2_with fail;obtain ⟨X,g3⟩:=P.o.set1 rfl k (.int .i32 s) s ⟨rfl,RE.o⟩ (fun _ h=>h.elim);have U:=FS.o;simp only [Z.out] at U;rw [U] at X;exact ⟨⟨k+1,by omega,by go_num,dG G2.o g3,X⟩,by simp [intOf];omega⟩
  ·obtain rfl:k=N:=oM;go_wp2_with fail
   ((try simp only [Exit.inBlock,Exit.then]);refine bodyPost_end (results_none rfl _ _ _) rfl ?_)
   have e:=v.o;rw [Dn] at e;exact ⟨rfl,e,j.o⟩
theorem nj (A:QA) (n s:Nat) (l:List Int) (d:af) (W:QA) (nw T:Nat) (B:QA) (nb cb:Nat) (u0 u1 u2:Value) (O K M q N m base:Nat) (L:List Int) (h v c y p:Int) (row:Nat) (at_:Int) (ok:Bool) (w:World)
  (P:Sl (ab .i8) w (blo m) A n s l) (b:InK .i8 d.za)
  (F:Blk w O 29 (tN h v c A n s)) (D:Blk w K 84 (nD d W nw T B nb cb)) (E:Blk w M 322 #[.int .i64 y,.int .i64 p,.slice (some ⟨q,0,none⟩) N N])
  (t:Own (ab .i16) w (fun _=>False) base 353 (.slice (some ⟨q,0,none⟩) N N) N L) (a:row < N) (r:ok=true → ∃ i:Nat,at_=i∧i < n) (hN:N≤100000000) (hn:n≤1024) :
  Calls prog 245 #[.int .i64 row,.int .i64 at_,.bool ok,.pointer (some ⟨O,0,none⟩),.pointer (some ⟨K,0,none⟩),.pointer (some ⟨M,0,none⟩)] w fun e w'=>e=.returned (.tuple #[])∧Own (ab .i16) w' (fun _=>False) base 353 (.slice (some ⟨q,0,none⟩) N N) N (if ok=true then L.set row (l.getD at_.toNat 0 - d.za) else L)∧w.grownBy w' (some q):=by
 cases ok with
 | false =>
  go_in;go_wp2_with fail
  ((try simp only [Exit.inBlock,Exit.then]);refine bodyPost_end (results_none rfl _ _ _) rfl ?_)
  exact ⟨rfl,t,oV _ _⟩
 | true =>
  obtain ⟨i,rfl,hi⟩:=r rfl;rw [if_pos rfl,Int.toNat_natCast];obtain ⟨Y,oz,rfl,-,-,J,g⟩:=P.int_at i hi;obtain ⟨x,Q⟩:∃ x,l.getD i 0=x:=⟨_,rfl⟩;rw [Q] at J g ⊢;obtain ⟨z,f⟩:∃ z,d.za=z:=⟨_,rfl⟩;have k:=D.cell 7;have t3:=F.cell 3;have R:=E.cell 2;simp only [gX] at k t3 R;rw [f] at k b ⊢;rw [bj] at g b;obtain ⟨i1,i2⟩:=g;obtain ⟨z1,z2⟩:=b;have Z:IntKind.i16.wrap x=x:=by rw [iD];omega
  have g7:IntKind.i16.wrap z=z:=by rw [iD];omega
  have g8:IntKind.i16.wrap (x - z)=x - z:=by rw [iD];omega
  obtain ⟨x0,X,-,-,G,H,I,-⟩:=t.cell rfl row a;have C:=zH t;clear Q f t F D E P r;go_in;go_wp2_with fail;go_still_tail 13,kM;change wpList _ _ _ _ _ w.drew;obtain ⟨j,S⟩:=zh2 (C.o.heap (w':=w.drew) rfl) (oU w (some q));clear G H I J k t3 R C;generalize w.drew=wy at *;obtain ⟨x9,u9,-,-,G,H,I,-⟩:=j.o.cell rfl row a;go_wp2_with fail
  ((try simp only [Exit.inBlock,Exit.then]);refine bodyPost_end (results_none rfl _ _ _) rfl ?_)
  obtain ⟨V,U⟩:=j.o.set1 rfl row (.int .i16 (x - z)) (x - z) ⟨rfl,by simp only [InK,IntKind.min,IntKind.max,IntKind.signed,IntKind.bits];simp;omega⟩ (fun _ h=>h.elim);exact ⟨rfl,V,dG S.o U⟩
def dX (H V C:Nat) (l:List Int) (za:Int) (K S P Wo:Nat) (r:Nat):Int :=
 px H V C l za ((r / (K*K*C) / Wo*S+r % (K*K*C) / C / K:Nat) - (P:Int)) ((r / (K*K*C) % Wo*S+r % (K*K*C) / C % K:Nat) - (P:Int)) (r % (K*K*C) % C)
theorem tz {f:Nat → Int} {n k:Nat} (h:k < n) (t:f k=0):du 0 f n k=du 0 f n (k+1):=by
 have e:=fv 0 f n k h;rw [← e,t];unfold du;apply List.ext_getElem sM;intro i a o;rw [List.getElem_set];split
 ·rename_i e;subst e;rw [List.getElem_append_right sM];simp
 ·rfl
theorem AE (H V C:Nat) (A:QA) (n O:Nat) (l:List Int) (d:af) (W:QA) (nw L:Nat) (B:QA) (nb cb:Nat) (Ho Wo K S P gt gn gr q N m base M c:Nat) (I J:Int) (w:World)
  (hl:Sl (ab .i8) w (blo m) A n O l) (hm:m≤base) (hn:n=H*V*C) (ac:n≤1024) (hz:InK .i8 d.za) (hk:d.k=K) (hs:d.s=S) (hp:d.p=P) (k1:1≤K∧K≤5) (s1:S≤4) (p1:P≤4)
  (h1:1≤H∧H≤16) (v1:1≤V∧V≤16) (c1:1≤C∧C≤1024) (he:decide (0 < ag H V C)=true) (bh:1≤Ho∧Ho≤16) (ax:1≤Wo∧Wo≤16) (hM:Ho*Wo=M) (R:K*K*C=c) (hN:M*c=N)
  (bt:Blk w gt 29 (tN H V C A n O)) (bn:Blk w gn 84 (nD d W nw L B nb cb)) (br:Blk w gr 322 #[.int .i64 I,.int .i64 J,.slice (some ⟨q,0,none⟩) N N]) (qt:gt ≠ q) (qn:gn ≠ q) (qr:gr ≠ q)
  (D:Own (ab .i16) w (fun _=>False) base 353 (.slice (some ⟨q,0,none⟩) N N) N (List.replicate N 0)) :
  Calls prog 243 #[.agg #[.int .i64 H,.int .i64 V,.int .i64 C,.int .i64 d.kind,.int .i64 d.a,.int .i64 d.b,.int .i64 d.k,.int .i64 d.s,.int .i64 d.p,.int .i64 d.out,.int .i8 d.za,.int .i8 d.zb,.slice W nw L,.slice B nb cb,.int .i32 d.qm,.int .i64 d.qs,.int .i8 d.qz,.int .i32 d.rm,.int .i64 d.rs,.int .i8 d.rz,.int .i8 d.lo,.int .i8 d.hi,.int .i64 Ho,.int .i64 Wo,.int .i64 1],.func (.func 244) #[.agg #[.int .i64 H,.int .i64 V,.int .i64 C,.int .i64 d.kind,.int .i64 d.a,.int .i64 d.b,.int .i64 d.k,.int .i64 d.s,.int .i64 d.p,.int .i64 d.out,.int .i8 d.za,.int .i8 d.zb,.slice W nw L,.slice B nb cb,.int .i32 d.qm,.int .i64 d.qs,.int .i8 d.qz,.int .i32 d.rm,.int .i64 d.rs,.int .i8 d.rz,.int .i8 d.lo,.int .i8 d.hi,.int .i64 Ho,.int .i64 Wo,.int .i64 1]] #[],.func (.func 245) #[] #[.pointer (some ⟨gt,0,none⟩),.pointer (some ⟨gn,0,none⟩),.pointer (some ⟨gr,0,none⟩)]] w
   fun e w'=>e=.returned (.tuple #[])∧Own (ab .i16) w' (fun _=>False) base 353 (.slice (some ⟨q,0,none⟩) N N) N ((List.range N).map (dX H V C l d.za K S P Wo))∧w.grownBy w' (some q):=by
 have ba:M≤256:=by rw [← hM];exact Nat.mul_le_mul bh.2 ax.2
 have ah:c≤25600:=by rw [← R];exact Nat.mul_le_mul (Nat.mul_le_mul k1.2 k1.2) c1.2
 have bc:N≤256*25600:=by rw [← hN];exact Nat.mul_le_mul ba ah
 have WI:=zH (fun w=>uI H V C d W nw L B nb cb Ho Wo 1 K w hk k1.2 c1.2);rw [R] at WI;have EL:=zH (fun w=>bL (Ho:Int) (1:Int) (Wo:Int) w (by rw [ai];omega) (by rw [ai];omega) (by rw [ai];omega));have ad:ag (Ho:Int) (Wo:Int) (1:Int)=(M:Int):=by
  rw [cO,if_pos ⟨by omega,by omega,by omega,by omega,by omega,by omega,by rw [Int.mul_one,← Int.natCast_mul,hM];omega⟩,Int.mul_one,← Int.natCast_mul,hM]
 rw [ad] at EL;obtain ⟨PL,HL,HZ,BT,BN,BR,NE,QQ⟩:=zh8 (fun (i k:Nat) (hi:i≤1024) (bo:k≤25600) w=>zn H V C d W nw L B nb cb Ho Wo 1 K S P i k w hk hs hp k1 s1 p1 h1 v1 c1 he ax hi bo) hl hz bt bn br hn (And.intro qt (And.intro qn qr));have hq:=D.lt _ rfl;rw [← fD 0 (dX H V C l d.za K S P Wo) N] at D;obtain ⟨w1,bd,j,Z⟩:=nB w #[.int .i64 H,.int .i64 V,.int .i64 C,.int .i64 d.kind,.int .i64 d.a,.int .i64 d.b,.int .i64 d.k,.int .i64 d.s,.int .i64 d.p,.int .i64 d.out,.int .i8 d.za,.int .i8 d.zb,.slice W nw L,.slice B nb cb,.int .i32 d.qm,.int .i64 d.qs,.int .i8 d.qz,.int .i32 d.rm,.int .i64 d.rs,.int .i8 d.rz,.int .i8 d.lo,.int .i8 d.hi,.int .i64 Ho,.int .i64 Wo,.int .i64 1] 349;obtain ⟨z,v,QB⟩:=zh3 (bm (r:=some q) Z) (D.below Z (lR _) (fun _ h=>h.elim)) (show q < w.heap.size from hq.2);clear hl hz bt bn br hn qt qn qr D hq ad he hk hs hp Z;go_in
 go_wp2_with (first|(refine lG j.o ?_)|(go_at_call 242;refine qM (WI.o _) fun w2 y=>?_;replace j:=zF y j;replace z:=zH (dG z.o (bm y));replace v:=zH (v.o.below y (lR _) (fun _ h=>h.elim));clear y bd)|(refine lP 23 (sN Ho Wo 1) j.o ?_)|(go_at_call 85;refine qM (EL.o _) fun w3 y=>?_;replace j:=zF y j;replace z:=zH (dG z.o (bm y));replace v:=zH (v.o.below y (lR _) (fun _ h=>h.elim));clear y))
 go_loopw [16] (fun Y wr=>∃ i:Nat,i≤M∧Y=.int .i64 i∧w.grownBy wr (some q)∧Blk wr w.heap.size 349 #[.int .i64 H,.int .i64 V,.int .i64 C,.int .i64 d.kind,.int .i64 d.a,.int .i64 d.b,.int .i64 d.k,.int .i64 d.s,.int .i64 d.p,.int .i64 d.out,.int .i8 d.za,.int .i8 d.zb,.slice W nw L,.slice B nb cb,.int .i32 d.qm,.int .i64 d.qs,.int .i8 d.qz,.int .i32 d.rm,.int .i64 d.rs,.int .i8 d.rz,.int .i8 d.lo,.int .i8 d.hi,.int .i64 Ho,.int .i64 Wo,.int .i64 1]∧Own (ab .i16) wr (fun _=>False) base 353 (.slice (some ⟨q,0,none⟩) N N) N (du 0 (dX H V C l d.za K S P Wo) N (i*c))) (fun Y _=>M - (intOf Y).toNat)
 case atStart=>exact ⟨0,zl _,rfl,z.o,j.o,by rw [Nat.zero_mul];exact v.o⟩
 case round =>
  obtain ⟨i,hi,rfl,f0,f1,f2⟩:=hrel;clear z j v;obtain ⟨z,j,v⟩:=zh3 f0 f1 f2;clear f0 f1 f2;by_cases bs:i < M
  ·have bw:(i:Int) < (M:Int):=oM;go_wp2;go_loopw [20] (fun Y wr=>∃ k:Nat,k≤c∧Y=.int .i64 k∧w.grownBy wr (some q)∧Blk wr w.heap.size 349 #[.int .i64 H,.int .i64 V,.int .i64 C,.int .i64 d.kind,.int .i64 d.a,.int .i64 d.b,.int .i64 d.k,.int .i64 d.s,.int .i64 d.p,.int .i64 d.out,.int .i8 d.za,.int .i8 d.zb,.slice W nw L,.slice B nb cb,.int .i32 d.qm,.int .i64 d.qs,.int .i8 d.qz,.int .i32 d.rm,.int .i64 d.rs,.int .i8 d.rz,.int .i8 d.lo,.int .i8 d.hi,.int .i64 Ho,.int .i64 Wo,.int .i64 1]∧Own (ab .i16) wr (fun _=>False) base 353 (.slice (some ⟨q,0,none⟩) N N) N (du 0 (dX H V C l d.za K S P Wo) N (i*c+k))) (fun Y _=>c - (intOf Y).toNat)
   case atStart=>exact ⟨0,zl _,rfl,z.o,j.o,v.o⟩
   case round =>
    obtain ⟨k,hk,rfl,f0,f1,f2⟩:=hrel;clear z j v;obtain ⟨z,j,v⟩:=zh3 f0 f1 f2;clear f0 f1 f2;by_cases al:k < c
    ·have bp:(k:Int) < (c:Int):=oM;go_wp2_with fail;have g:i*c+k < N:=by
      rw [← hN];have:(i+1)*c≤M*c:=Nat.mul_le_mul_right _ bs;rw [Nat.succ_mul] at this;omega
     have dv:(i*c+k) / c=i:=by rw [Nat.mul_comm,Nat.mul_add_div oM,Nat.div_eq_of_lt al,Nat.add_zero]
     have md:(i*c+k) % c=k:=by rw [Nat.mul_comm,Nat.mul_add_mod,Nat.mod_eq_of_lt al]
     obtain ⟨r1,T⟩:∃ x,i*c=x:=⟨_,rfl⟩;have j1:(i:Int)*(c:Int)=(r1:Int):=by rw [← T];simp
     have bl:r1≤256*25600:=by rw [← T];exact Nat.mul_le_mul oM ah
     have e1:IntKind.i64.wrap ((i:Int)*(c:Int))=(r1:Int):=by rw [j1];exact wJ
     obtain ⟨row,ay⟩:∃ x,i*c+k=x:=⟨_,rfl⟩;have e2:IntKind.i64.wrap ((r1:Int)+(k:Int))=(row:Int):=(wJ).trans oM;rw [ay] at g dv md v;have an:=zH (show i*c+(k+1)=row+1 by omega);obtain ⟨yy,X⟩:∃ x:Int,((i / Wo*S+k / C / K:Nat):Int) - (P:Int)=x:=⟨_,rfl⟩;obtain ⟨xx,U⟩:∃ x:Int,((i % Wo*S+k / C % K:Nat):Int) - (P:Int)=x:=⟨_,rfl⟩;have FV:=zH (show dX H V C l d.za K S P Wo row=px H V C l d.za yy xx (k % C) by unfold dX;rw [R,dv,md,X,U]);have PC:=PL.o i k oM oM wr;rw [X,U] at PC;obtain ⟨FS,FN⟩:=zh2 (fv 0 (dX H V C l d.za K S P Wo) N row g) (fun hf=>tz (f:=dX H V C l d.za K S P Wo) (n:=N) (k:=row) g hf);clear dv md X U ay T j1;by_cases E:bY H V yy xx
     ·have G:=E;unfold bY at G;obtain ⟨be,PV⟩:=zh2 (show eB V C yy xx (k % C) < n by rw [NE.o];exact jE yy.toNat xx.toNat (k % C) H V C oM oM (Nat.mod_lt _ oM)) (show dX H V C l d.za K S P Wo row=l.getD (eB V C yy xx (k % C)) 0 - d.za by rw [FV.o];unfold px;rw [if_pos G];rfl);clear G;rw [if_pos E,qT E] at PC;refine PC.mono ?_;rintro e w2 ⟨rfl,y⟩;obtain ⟨F,B2,O2⟩:=zh3 (dG z.o (bm y)) (j.o.fut y) (v.o.below y (lR _) (fun _ h=>h.elim));have lq:=(v.o.lt _ rfl).1;clear y;go_wp2_with fail;refine (nj A n O l d W nw L B nb cb undef undef undef gt gn gr q N m base _ H V C I J row _ true w2 (HL.o.away F.o oM (by have:=QB.o;omega)) HZ.o (BT.o.rowR F.o (fun e=>QQ.o.1 (sI e))) (BN.o.rowR F.o (fun e=>QQ.o.2.1 (sI e))) (BR.o.rowR F.o (fun e=>QQ.o.2.2 (sI e))) O2.o g (fun _=>⟨_,rfl,be.o⟩) oM ac).mono ?_;rintro e w3 ⟨rfl,t,Q⟩;obtain ⟨B3,G3⟩:=zh2 (B2.o.rowR Q (fun e=>by have:=sI e;have:=QB.o;omega)) (dG F.o Q);rw [if_pos rfl,Int.toNat_natCast,← PV.o,FS.o] at t;have O3:=zH t;clear t Q;go_wp2;exact ⟨⟨k+1,by omega,by go_num,G3.o,B3.o,by rw [an.o];exact O3.o⟩,by simp [intOf];omega⟩
     ·have PV:=zH (show dX H V C l d.za K S P Wo row=0 by rw [FV.o];unfold px;exact if_neg E);rw [if_neg E,dF E] at PC;refine PC.mono ?_;rintro e w2 ⟨rfl,y⟩;obtain ⟨F,B2,O2⟩:=zh3 (dG z.o (bm y)) (j.o.fut y) (v.o.below y (lR _) (fun _ h=>h.elim));have lq:=(v.o.lt _ rfl).1;clear y;go_wp2_with fail;refine (nj A n O l d W nw L B nb cb undef undef undef gt gn gr q N m base _ H V C I J row _ false w2 (HL.o.away F.o oM (by have:=QB.o;omega)) HZ.o (BT.o.rowR F.o (fun e=>QQ.o.1 (sI e))) (BN.o.rowR F.o (fun e=>QQ.o.2.1 (sI e))) (BR.o.rowR F.o (fun e=>QQ.o.2.2 (sI e))) O2.o g (fun h=>by cases h) oM ac).mono ?_;rintro e w3 ⟨rfl,t,Q⟩;obtain ⟨B3,G3⟩:=zh2 (B2.o.rowR Q (fun e=>by have:=sI e;have:=QB.o;omega)) (dG F.o Q);rw [if_neg dM,FN.o PV.o] at t;have O3:=zH t;clear t Q;go_wp2;exact ⟨⟨k+1,by omega,by go_num,G3.o,B3.o,by rw [an.o];exact O3.o⟩,by simp [intOf];omega⟩
    ·obtain rfl:k=c:=oM;go_wp2;exact ⟨⟨i+1,by omega,by go_num,z.o,j.o,by rw [Nat.succ_mul];exact v.o⟩,by simp [intOf];omega⟩
  ·obtain rfl:i=M:=oM;go_wp2_with fail
   ((try simp only [Exit.inBlock,Exit.then]);refine bodyPost_end (results_none rfl _ _ _) rfl ?_)
   have e:=v.o;rw [hN,fZ] at e;exact ⟨rfl,e,z.o⟩
def lF (H V C:Nat) (l:List Int) (K S P:Nat) (c y x:Nat):Nat → List Int
 | 0=>[]
 | q+1=>if bY H V ((y*S+q / K:Nat) - (P:Int)) ((x*S+q % K:Nat) - (P:Int)) then lF H V C l K S P c y x q ++ [l.getD (eB V C ((y*S+q / K:Nat) - (P:Int)) ((x*S+q % K:Nat) - (P:Int)) c) 0] else lF H V C l K S P c y x q
theorem oE (H V C:Nat) (l:List Int) (K S P:Nat) (c y x:Nat):∀ q,(lF H V C l K S P c y x q).length≤q
 | 0=>lR _
 | q+1=>by
  have e:=oE H V C l K S P c y x q;unfold lF;split
  ·simp;omega
  ·omega
open Go.Shelf Go.Lib Go.Sort Go.Proofs.YtbecbfpoahhpnaaGreat.Ar
def kQ (x y:Int):Int:=if x < y then -1 else if y < x then 1 else 0
def iV:Ty (Int × Int):=tPair (ab .i64) (ab .i64)
def jC (x:Int × Int):List Value:=[.int .i64 x.1,.int .i64 x.2]
def nP (x y:Int × Int):Int:=kQ x.1 y.1
theorem ltT (x y:Int × Int):ltOf nP x y=decide (x.1 < y.1):=by
 show decide (nP x y < 0)=_;unfold nP kQ;by_cases h:x.1 < y.1
 ·rw [if_pos h,qT h];rfl
 ·rw [if_neg h,dF h];split <;> rfl
theorem Eq:SWO (ltOf nP) where
 irrefl:=fun x=>by rw [ltT];simp
 trans:=fun x y z e t=>by rw [ltT] at *;simp at *;omega
 ntrans:=fun x y z e t=>by rw [ltT] at *;simp at *;omega
theorem km (x:Int) (w:World):Calls prog 180 #[.int .i64 x] w fun e w'=>e=.returned (.bool false)∧w=w':=by
 have h:(x != x)=false:=by simp
 go_in;go_wp2;go_ret;exact ⟨rfl,rfl⟩
theorem rJ (x y:Int) (w:World):Calls prog 148 #[.int .i64 x,.int .i64 y] w fun e w'=>e=.returned (.int .i64 (kQ x y))∧w=w':=by
 by_cases t:x < y
 ·have n:decide (x < y)=true:=by simp;exact t
  have a:=zH (show (-1:Int)=kQ x y by unfold kQ;rw [if_pos t]);clear t;go_in
  go_wp2_with (go_at_call 180;refine (km _ _).mono ?_;rintro e w' ⟨rfl,rfl⟩)
  go_ret;exact ⟨bK a.o,rfl⟩
 ·have n:decide (x < y)=false:=sO;by_cases i:y < x
  ·have s:decide (y < x)=true:=by simp;exact i
   have a:=zH (show (1:Int)=kQ x y by unfold kQ;rw [if_neg t,if_pos i]);clear t i;go_in
   go_wp2_with (go_at_call 180;refine (km _ _).mono ?_;rintro e w' ⟨rfl,rfl⟩)
   go_ret;exact ⟨bK a.o,rfl⟩
  ·have s:decide (y < x)=false:=sO;have a:=zH (show (0:Int)=kQ x y by unfold kQ;rw [if_neg t,if_neg i]);clear t i;go_in
   go_wp2_with (go_at_call 180;refine (km _ _).mono ?_;rintro e w' ⟨rfl,rfl⟩)
   go_ret;exact ⟨bK a.o,rfl⟩
theorem yC (x y:Int × Int) (w:World):Calls prog 147 #[.agg #[.int .i64 x.1,.int .i64 x.2],.agg #[.int .i64 y.1,.int .i64 y.2]] w fun e w'=>e=.returned (.int .i64 (nP x y))∧∃ q os,w'=grow (w.drewN q) os:=by
 obtain ⟨s,a⟩:∃ s,w.alloc (.cells #[.int .i64 x.1,.int .i64 x.2] 211)=s:=⟨_,rfl⟩;obtain ⟨n,t⟩:∃ n,s.alloc (.cells #[.int .i64 y.1,.int .i64 y.2] 211)=n:=⟨_,rfl⟩;have G:=zH (show n=grow (w.drewN 0) #[.cells #[.int .i64 x.1,.int .i64 x.2] 211,.cells #[.int .i64 y.1,.int .i64 y.2] 211] by
  rw [← t,← a,alloc_eq_grow,alloc_eq_grow,grow_grow];rfl)
 have h:Blk n w.heap.size 211 #[.int .i64 x.1,.int .i64 x.2]:=by rw [← t,← a];exact (Blk.now _ _ _ _ rfl).past _
 have r:Blk n s.heap.size 211 #[.int .i64 y.1,.int .i64 y.2]:=by rw [← t];exact Blk.now _ _ _ _ rfl
 have l:=fun i=>h.cell i;have c:=fun i=>r.cell i;have d:=zH (fun w=>rJ x.1 y.1 w);clear h r;unfold nP;go_in;go_wp2_with fail;refine (d.o _).mono ?_;rintro e w' ⟨rfl,rfl⟩;go_wp2;go_ret;exact ⟨rfl,0,_,G.o⟩
theorem zT {w:World} {base m g c:Nat} {l:List (Int × Int)} {E:TypeId} (h:Own iV w (fun _=>False) base E (.slice (some ⟨g,0,none⟩) m c) m l):HoldsK jC 2 w g 0 l.toArray:=by
 obtain ⟨vs,n,s⟩:=h.out;have d:=s.len;intro j r;rw [size_flatK] at r;have i:j < l.length*2:=by simpa using r
 refine ⟨?_,?_⟩
 ·rw [get_flatK _ _ _ _ (by simpa using i)];have hi:j / 2 < l.length:=oM;obtain ⟨xs,⟨a,b,rfl,⟨rfl,_⟩,⟨rfl,_⟩⟩,y⟩:=s.at_ (j / 2) l[j / 2] (List.getElem?_eq_getElem hi);have p:l.length=m:=h.length dM;rw [Nat.zero_add,n.cellAt j (by rw [← p];show j < l.length*2;omega)];have e:l.toArray[j / 2]! = l[j / 2]:=by rw [getElem!_pos _ _ (by simpa using hi)];simp
  show vs[j]?=some ((jC l.toArray[j / 2]!)[j % 2]!);rw [e];have t:=y (j % 2);have f:j / 2*iV.size+j % 2=j:=by show j / 2*2+j % 2=j;omega
  rw [f] at t;rcases Nat.mod_two_eq_zero_or_one j with o|o
  ·rw [o] at t ⊢;exact t _ rfl
  ·rw [o] at t ⊢;exact t _ rfl
 ·rw [Nat.zero_add];exact n.frozenAt j
theorem ym {w:World} {g:Nat} {d:Array (Int × Int)} (h:HoldsK jC 2 w g 0 d) (k:Nat) (o:k < d.size) :
  w.cell? ⟨g,k*2,none⟩=some (.int .i64 (d.toList.getD k (0,0)).1)∧w.cell? ⟨g,k*2+1,none⟩=some (.int .i64 (d.toList.getD k (0,0)).2):=by
 have e:d[k]! = d.toList.getD k (0,0):=by
  rw [getElem!_pos d k o,gD,List.getElem?_eq_getElem (by simpa using o)];simp
 have t:=(h (k*2) (by rw [size_flatK];omega)).1;have a:=(h (k*2+1) (by rw [size_flatK];omega)).1;rw [get_flatK _ _ _ _ oM,Nat.zero_add] at t a;rw [show k*2 / 2=k by omega,show k*2 % 2=0 by omega,e] at t;rw [show (k*2+1) / 2=k by omega,show (k*2+1) % 2=1 by omega,e] at a;exact ⟨t,a⟩
theorem oY (w:World) (g n:Nat) (t:Array (Int × Int)) (os:Array Obj):w.grownBy (sortWorldK jC 2 w g 0 n t os) (some g):=by
 have o:(putRowK jC 2 (Sort.ahead w n) g 0 t).heap.size=w.heap.size:=by
  unfold putRowK;simp [putRow,mapBlock]
 refine ⟨rfl,rfl,rfl,?_,fun k i a=>?_⟩
 ·show w.heap.size≤((putRowK jC 2 (Sort.ahead w n) g 0 t).heap ++ os).size;rw [Array.size_append,o];omega
 ·show ((putRowK jC 2 (Sort.ahead w n) g 0 t).heap ++ os)[k]?=_;rw [Array.getElem?_append_left (by rw [o];exact i)];unfold putRowK;simp only [putRow,mapBlock,Array.getElem?_modify];rw [if_neg (fun e=>a (by rw [e]))];rfl
theorem AY (g c m base:Nat) (l:List (Int × Int)) (n:Int) (w:World) (A:Own iV w (fun _=>False) base 211 (.slice (some ⟨g,0,none⟩) m c) m l) (hn:0 < n∧n≤1048576)
  (hb:∀ x ∈ l,0≤x.1∧x.1≤1099511627776∧0≤x.2∧x.2≤1099511627776) (hm:m≤1099511627776) :
  Calls prog 113 #[.slice (some ⟨g,0,none⟩) m c,.int .i64 n] w fun e w'=>∃ r,e=.returned (.int .i64 r)∧LeastFree l n r∧w.grownBy w' (some g):=by
 have C:=A.length dM;have T:=zT A;have hg:=(A.lt g rfl).2;have eg:∀ B w,(callFunc 147 B).run prog w=.ok (.enter 147 B) w:=enters_of func147 kM rfl;have P:l.toArray.size=m:=by simpa using C
 have z:=AnyQ.slices_SortFunc Tryz.lSrt 2 (fun w=>by kernel_rfl) (fun w=>by kernel_rfl) jC (fun _=>rfl) (fun x v hv=>by simp only [jC,List.mem_cons,List.not_mem_nil,or_false] at hv;rcases hv with rfl|rfl <;> rfl) nP Eq 147 #[] g 0 c l.toArray w eg
  (fun k os dk ah x y=>yC x y _) T hg (by rw [P];omega)
 rw [P] at z;change Calls prog 146 _ _ _ at z;obtain ⟨SO,X,Y,b⟩:=zh4 z hb T P;clear z hb C T A eg P;go_in;go_wp2_with fail;go_step3;go_wp2_with fail;refine SO.o.mono ?_;rintro e V ⟨rfl,d,k,os,O,L,D⟩;have H:d.size=m:=by rw [O.1,b.o]
 have G:HoldsK jC 2 V g 0 d:=by rw [D];exact holdsK_sortWorldK jC 2 w g 0 k l.toArray d os hg Y.o O.1
 have hG:w.grownBy V (some g):=by rw [D];exact oY w g k d os
 have s:d.toList.Perm l:=by
  have:=O.2.2;rw [show d.extract 0 m=d by rw [← H];simp,show l.toArray.extract 0 m=l.toArray by rw [← b.o];simp] at this;simpa using this
 have p:∀ i j,i < j → j < d.toList.length → (d.toList.getD i (0,0)).1≤(d.toList.getD j (0,0)).1:=by
  intro i j U N;have I:j < d.size:=by simpa using N
  have:=L i j (zl _) U (by rw [← H];exact I);rw [ltT,getElem!_pos d j I,getElem!_pos d i oM] at this;rw [gD,gD,List.getElem?_eq_getElem N,List.getElem?_eq_getElem oM];simp at this ⊢;exact this
 obtain ⟨LF,Z⟩:=zh2 (scan_least (n:=n) s p) (fun k E=>scan_ok (n:=n) p k E);have W:=zH (show ∀ j,j < m → 0≤(d.toList.getD j (0,0)).1∧(d.toList.getD j (0,0)).1≤1099511627776∧0≤(d.toList.getD j (0,0)).2∧(d.toList.getD j (0,0)).2≤1099511627776 from fun j N=>by
  refine X.o _ (s.mem_iff.1 ?_);rw [gD,List.getElem?_eq_getElem (by simp;omega)];exact List.getElem_mem _)
 obtain ⟨CE,HG,Q,R⟩:=zh4 (fun k E=>ym G k E) hG (show d.toList.length=m by simpa using H) H;clear D O L G hG s p H Y b SO X;generalize d.toList=q at *;go_wp2_with fail;go_step3;go_wp2;go_loopw [5,6] (fun v u wr=>∃ k:Nat,k≤m∧u=.int .i64 k∧v=.int .i64 (scanTo q n k)∧V=wr) (fun _ u _=>m - (intOf u).toNat)
 case atStart=>exact ⟨0,zl _,rfl,rfl,rfl⟩
 case round =>
  obtain ⟨k,E,rfl,rfl,rfl⟩:=hrel;have an:=(Z.o k (by rw [Q.o];exact E)).nn;have ad:scanTo q n k≤1099511627776:=by
   rcases (Z.o k (by rw [Q.o];exact E)).from_ with h|⟨j,N,h⟩
   ·omega
   ·rw [h];exact (W.o j oM).2.2.2
  have b:=zH (show scanTo q n (k+1)=if scanTo q n k < (q.getD k (0,0)).2∧(q.getD k (0,0)).1 < scanTo q n k+n then (q.getD k (0,0)).2 else scanTo q n k from rfl);generalize K:scanTo q n k=a at *;have S:=zH K;clear K;by_cases J:k < m
  ·have t1:decide ((k:Int) < (m:Int))=true:=sO;have pk:(k:Int) < (m:Int):=oM;obtain ⟨q0,q1⟩:=CE.o k (by rw [R.o];exact J);have bd:=W.o k J;generalize q.getD k (0,0)=x at *;obtain ⟨f,t⟩:=x;simp only at q0 q1 bd b;have e1:IntKind.i64.wrap (a+n)=a+n:=wJ;by_cases F:a < t
   ·have y1:decide (a < t)=true:=by simp;exact F
    by_cases M:f < a+n
    ·have y2:decide (f < a+n)=true:=by simp;exact M
     rw [if_pos ⟨F,M⟩] at b;clear F M;go_wp2;exact ⟨⟨k+1,by omega,by go_num,by rw [b.o],by trivial⟩,by simp [intOf];omega⟩
    ·have y2:decide (f < a+n)=false:=sO;rw [if_neg oM] at b;clear F M;go_wp2;exact ⟨⟨k+1,by omega,by go_num,by rw [b.o],by trivial⟩,by simp [intOf];omega⟩
   ·have y1:decide (a < t)=false:=sO;rw [if_neg oM] at b;clear F;go_wp2;exact ⟨⟨k+1,by omega,by go_num,by rw [b.o],by trivial⟩,by simp [intOf];omega⟩
  ·obtain rfl:k=m:=oM;have t1:decide ((k:Int) < (k:Int))=false:=by simp
   go_wp2_with fail;rw [Exit.noGoto_ret];go_ret;exact ⟨a,rfl,by have:=LF.o;rw [Q.o,S.o] at this;exact this,HG.o⟩
theorem AH:EI prog 208 211 (.agg #[.int .i64 0,.int .i64 0]) 2 16:=⟨underlying208,by kernel_rfl,rfl,by decide⟩
theorem vH (F:Value) (w:World):Calls prog 146 #[.slice none 0 0,F] w fun e w'=>e=.returned (.tuple #[])∧w=w':=by
 have t:∀ w,Calls prog 203 #[.slice none 0 0,.int .i64 0,.int .i64 0,F] w fun e w'=>e=.returned (.tuple #[])∧w=w':=by
  intro w;go_in;go_wp2_with fail;refine wp_loop_rounds 1 ?_;rw [rounds_succ];go_wp2_with fail;refine bodyPost_end (results_none rfl _ _ _) rfl ?_;exact ⟨rfl,rfl⟩
 have s:∀ (x:Int) w,Calls prog 178 #[.slice none 0 0,.int .i64 0,.int .i64 0,.int .i64 x,F] w fun e w'=>e=.returned (.tuple #[])∧w=w':=by
  intro x w;go_in;go_wp2_with fail;refine wp_loop_rounds 1 ?_;rw [rounds_succ];go_wp2_with fail;refine (t w).mono ?_;rintro e a ⟨rfl,rfl⟩;go_wp2_with fail;refine bodyPost_ret (results_none rfl _ _ _) rfl ?_;exact ⟨rfl,rfl⟩
 have o:∀ w,Calls prog 179 #[.int .u64 0] w fun e w'=>(∃ x:Int,e=.returned (.int .i64 x))∧w=w':=by
  intro w;have h:=Any.bits_Len (SlLaysF0.n15.bits (P:=prog) (ρ:=Tryz.lSrt_ren) { Tryz.lSrt with }) 0 w oM oM;exact h.mono fun e w' ⟨i,n⟩=>⟨⟨_,i⟩,n.symm⟩
 clear t;go_in;go_wp2_with fail;refine (o w).mono ?_;rintro e a ⟨⟨x,rfl⟩,rfl⟩;go_wp2_with fail;refine (s x w).mono ?_;rintro e a ⟨rfl,rfl⟩;go_wp2_with fail;refine bodyPost_end (results_none rfl _ _ _) rfl ?_;exact ⟨rfl,rfl⟩
theorem yM (n:Int):LeastFree [] n 0:=⟨Int.le_refl _,(fun x e=>by cases e),(fun p t a=>by omega),.inl rfl⟩
theorem uX (n:Int) (w:World):Calls prog 113 #[.slice none 0 0,.int .i64 n] w fun e w'=>e=.returned (.int .i64 0)∧w=w':=by
 go_in;go_wp2_with fail;go_step3;go_wp2_with fail;refine (vH _ w).mono ?_;rintro e t ⟨rfl,rfl⟩;go_wp2_with fail;go_step3;go_wp2_with fail;refine wp_loop_rounds 1 ?_;rw [rounds_succ];go_wp2_with fail;rw [Exit.noGoto_ret];go_ret;exact ⟨rfl,rfl⟩
theorem uY (v:Value) (q base:Nat) (l:List (Int × Int)) (n:Int) (w:World) (a:Own iV w (fun _=>False) base 211 v q l) (p:0 < n∧n≤1048576)
  (d:∀ x ∈ l,0≤x.1∧x.1≤1099511627776∧0≤x.2∧x.2≤1099511627776) (y:q≤1099511627776) (t:base≤w.heap.size) :
  Calls prog 113 #[v,.int .i64 n] w fun e w'=>∃ r,e=.returned (.int .i64 r)∧LeastFree l n r∧Below base w w':=by
 obtain ⟨vs,h,j⟩:=a.out;rcases h.2 with ⟨rfl,rfl⟩|⟨g,o,i,rfl,c,_⟩
 ·have f:=a.length dM;have:l=[]:=List.eq_nil_of_length_eq_zero f;subst this;refine (uX n w).mono ?_;rintro e w' ⟨rfl,rfl⟩;exact ⟨0,rfl,yM n,qB _ _⟩
 ·refine (AY g o q base l n w a p d y).mono ?_;rintro e w' ⟨r,rfl,b,s⟩;exact ⟨r,rfl,b,(qB base w).grown s t (fun k m=>by cases m;exact c)⟩
def jQ (sz un:List Int) (n:Nat) (w:World) (e:Ending) (w':World):Prop :=
 if mayOk sz un then ∃ A c,e=.returned (.tuple #[.slice A n c,.int .i64 (roomTo sz un n),.bool true])∧Sl (ab .i64) w' (bin w w') A n c (atTo sz un n)∧Below w w w'
 else e=.returned (.tuple #[.slice none 0 0,.int .i64 0,.bool false])∧Below w w w'
theorem yk {sz un at_:List Int} {i n:Nat} (o:Ar.Good sz un i at_) (hi:i < n) (s:sz.length=n) (d:∀ j,j < n → 0≤sz.getD j 0∧sz.getD j 0≤1048576) (r:Int) (l:(sz.getD i 0=0∧r=0) ∨ (0 < sz.getD i 0∧LeastFree (takenTo sz un at_ i i) (sz.getD i 0) r)) :
  best sz un at_ i=r∧0≤r∧cand sz at_ i r:=by
 rcases l with ⟨t,rfl⟩|⟨t,a⟩
 ·exact ⟨best_zero t (fun j e=>(d j oM).1) (fun j e=>(o.bd j e).1),Int.le_refl _,.inl rfl⟩
 ·refine ⟨least_best oM t (fun j e=>(d j oM).1) (fun j e=>(o.bd j e).1) a,a.nn,?_⟩;rcases a.from_ with h|⟨x,c,h⟩
  ·exact .inl h
  ·obtain ⟨j,m,f,w,rfl⟩:=takenTo_mem.1 c;exact .inr ⟨j,m,h⟩
theorem uM (A:QA) (n Q:Nat) (A':QA) (n' m:Nat) (sz un:List Int) (w:World) (h:Sl (ab .i64) w (blo w) A n Q sz) (h':Sl (ab .i64) w (blo w) A' n' m un) :
  Calls prog 86 #[.slice A n Q,.slice A' n' m] w (jQ sz un n w):=by
 have hm:n≤9223372036854775807:=lT h.cap_le h.max_le;have MA:=zH (yi A n Q A' n' m sz un w h h');have hl:=h.n_eq;have U:=h'.n_eq;obtain ⟨H,H'⟩:=zh2 h h';clear h h';by_cases c:mayOk sz un;rotate_left
 ·rw [dF c] at MA;have C:=zH c;clear c hl U;go_in;go_wp2_with fail;refine MA.o.mono ?_;rintro e w1 ⟨rfl,rfl⟩;go_wp2
  go_ret3
  unfold jQ;rw [if_neg C.o];exact ⟨rfl,qB _ _⟩
 have C:=zH c;rw [qT c] at MA;obtain ⟨k1,k2,k3⟩:=c;rw [hl] at k2 k3;have br:n=n':=by rw [← hl,← U];exact k1
 subst br;obtain ⟨J,HL⟩:=zh2 k3 hl;clear hl U k1 k3;have FR:=zW w;go_in;go_wp2_with fail;refine MA.o.mono ?_;rintro e w1 ⟨rfl,rfl⟩;clear MA;go_wp2;go_loopw [7,8,20] (fun v rm u wr=>∃ i:Nat,i≤n∧u=.int .i64 i∧rm=.int .i64 (roomTo sz un i)∧Hid (Far w wr)∧Hid (Own (ab .i64) wr (fun _=>False) w.heap.size 3 v i (atTo sz un i))∧Hid (Ar.Good sz un i (atTo sz un i))∧Hid (0≤roomTo sz un i∧roomTo sz un i≤1073741824)) (fun _ _ u _=>n - (intOf u).toNat)
 case atStart=>exact ⟨0,zl _,rfl,rfl,FR,zH (Own.nil _ _ _ _ _),zH (Ar.Good.nil sz un),zH (by simp [roomTo])⟩
 case round =>
  clear FR;obtain ⟨i,hi,rfl,rfl,F,O,G,RB⟩:=hrel;have rb:=RB.o;obtain ⟨d,g⟩:=zh2 (show roomTo sz un (i+1)=max (roomTo sz un i) (best sz un (atTo sz un i) i+sz.getD i 0) from rfl) (show atTo sz un (i+1)=atTo sz un i ++ [best sz un (atTo sz un i) i] from rfl);generalize be:roomTo sz un i=rm at *;have ah:=zH be;clear be RB;by_cases l:i < n
  ·have t1:decide ((i:Int) < (n:Int))=true:=sO;have pi:(i:Int) < (n:Int):=oM;obtain ⟨b0,off,rfl,_,_,c0,_⟩:=(H.o.fut F.o.out).int_at i l;have bn:=J.o i l;obtain ⟨x,hx⟩:∃ x,sz.getD i 0=x:=⟨_,rfl⟩;rw [hx] at c0 bn d;have HX:=zH hx;clear hx;generalize ac:atTo sz un i=z at *;have bp:=zH ac;clear ac;obtain ⟨A7,c7,rfl,D⟩:=O.o.sl (S':=blo wr) dM (fun b h1 h2=>h2) (fun _ h=>h.elim);obtain ⟨SA,SZ,SU,GS⟩:=zh4 D (H.o.fut F.o.out) (H'.o.fut F.o.out) (fun k hk=>G.o.small (Nat.le_of_lt l) k2 J.o k hk);clear D;obtain ⟨I,bt⟩:∃ I,I=wr:=⟨_,rfl⟩;rw [← bt] at F O SA SZ SU c0 ⊢;clear bt;have f:=zW I;go_wp2_with fail;clear c0;go_loopw [11,26] (fun v u wr=>∃ k q:Nat,k≤i∧q≤k∧u=.int .i64 k∧Hid (Far I wr)∧Hid (Own iV wr (fun _=>False) I.heap.size 211 v q (takenTo sz un z i k))) (fun _ u _=>i - (intOf u).toNat)
   case atStart=>exact ⟨0,0,zl _,lR _,rfl,f,zH (Own.nil _ _ _ _ _)⟩
   case round =>
    clear f;obtain ⟨k,q,hk,bz,rfl,f,V⟩:=hrel;have L:=zH (show takenTo sz un z i (k+1)=takenTo sz un z i k ++ if togI (un.getD k 0) k i=true∧0 < sz.getD k 0 then [(z.getD k 0,z.getD k 0+sz.getD k 0)] else [] from rfl);by_cases ax:k < i
    ·have t2:decide ((k:Int) < (i:Int))=true:=sO;have pk:(k:Int) < (n:Int):=oM;have bA:(k:Int) < (i:Int):=oM;have T:=zH (uE A' n m un k i wr (SU.o.fut f.o.out) oM);obtain ⟨b1,bw,hA,_,bb,X,_⟩:=SZ.o.int_at k oM;cases hA;obtain ⟨b2,bo,rfl,_,bg,Y,_⟩:=SA.o.int_at k ax;have X:=au f.o.out X;have Y:=au f.o.out Y;have bc:=J.o k oM;have bh:=GS.o k ax;obtain ⟨y,hy⟩:∃ y,sz.getD k 0=y:=⟨_,rfl⟩;obtain ⟨p,hp⟩:∃ y,z.getD k 0=y:=⟨_,rfl⟩;rw [hy] at X bc;rw [hp] at Y;rw [hy,hp] at L bh;clear hy hp;cases ht:togI (un.getD k 0) k i with
     | false =>
      rw [ht] at T L;rw [if_neg sM,List.append_nil] at L;clear ht;go_wp2_with fail;refine T.o.mono ?_;rintro e w1 ⟨rfl,rfl⟩;go_wp2;exact ⟨⟨k+1,q,by omega,by omega,by go_num,f,by rw [L.o];exact V⟩,by simp [intOf];omega⟩
     | true =>
      rw [ht] at T L;by_cases M:0 < y;rotate_left
      ·have y1:decide (0 < y)=false:=sO;rw [if_neg oM,List.append_nil] at L;clear ht M;go_wp2_with fail;refine T.o.mono ?_;rintro e w1 ⟨rfl,rfl⟩;go_wp2;exact ⟨⟨k+1,q,by omega,by omega,by go_num,f,by rw [L.o];exact V⟩,by simp [intOf];omega⟩
      ·have y1:decide (0 < y)=true:=by simp;exact M
       rw [if_pos ⟨rfl,M⟩] at L;have e1:IntKind.i64.wrap (p+y)=p+y:=wJ;obtain ⟨OD,FD⟩:=zh2 (show Own iV wr.drew (fun _=>False) I.heap.size 211 u11 q (takenTo sz un z i k) from V.o.heap rfl) f.o.out.drew;have zz:=f.o.size;obtain ⟨bd,bl⟩:=zh2 (show some b0 ≠ u11.ownBlock from fun e=>by have:=(V.o.lt _ e.symm).1;omega) (show some b2 ≠ u11.ownBlock from fun e=>by have:=(V.o.lt _ e.symm).1;omega);have rp:iV.rep wr.drew (fun _=>False) [.int .i64 p,.int .i64 (p+y)] (p,p+y):=⟨_,_,rfl,⟨rfl,by rw [ai];omega⟩,⟨rfl,by rw [ai];omega⟩⟩;have RP:=zH rp;have bx:q≤1024:=oM;clear ht M rp;go_wp2_with fail;refine T.o.mono ?_;rintro e w1 ⟨rfl,rfl⟩;go_wp2_with fail;refine aP (fun w'=>w'.cell? ⟨b2,bo+k,none⟩=some (.int .i64 p)∧w'.cell? ⟨b0,off+k,none⟩=some (.int .i64 y)∧Below I I w') 17 kM ?_ (fun a=>?_)
       ·exact ⟨Y,X,FD.o⟩
       refine kT' 0 a ?_;refine kT' 1 a ?_;refine kT' 2 a ?_;refine kT' 3 a ?_;refine kT' 4 a ?_;refine kT' 5 a ?_;refine kT' 6 a ?_;refine kT' 7 a ?_;refine kT' 8 a ?_;refine kT' 9 a ?_;refine kT' 10 a ?_;refine kT' 11 a ?_;refine kT' 12 a ?_;refine kT' 13 a ?_;refine kT' 14 a ?_;refine rT 15 (fun K hK=>?_);go_simp;have hb:Below wr.drew.heap.size wr.drew (wr.drew.alloc (.cells #[.int .i64 p,.int .i64 (p+y)] 211)):=(qB _ _).alloc (lR _) _;refine xK hK (zR hb a) fun a=>?_;clear hK K;refine rT 16 (fun K hK=>?_)
       (rw [if_pos (by rfl)];refine iT (W:=wr.drew) (cs:=#[.int .i64 p,.int .i64 (p+y)]) (E:=211) (t:=iV) (.tmp 40) (.tmp 55) rfl AH rfl OD.o 1 rfl (p,p+y) RP.o mL oM (by show _≤wr.heap.size;omega) (fun _ h=>h.elim) ?_;intro v' w7 N g7 bs;refine hK.out _ _ ⟨(cM g7 Y bl.out),(cM g7 X bd.out),FD.o.grown g7 (by show _≤wr.heap.size;omega) (fun j S=>(OD.o.lt j S).1)⟩ (fun a=>?_))
       clear hK K;try simp only [pX]
       refine wpAnyT_tail _ _ rfl rfl kM ?_;obtain ⟨F7,O7⟩:=zh2 (Far.mk (FD.o.grown g7 (by show _≤wr.heap.size;omega) (fun j S=>(OD.o.lt j S).1))) N;clear a hb X Y N g7 bs;go_wp2;exact ⟨⟨k+1,q+1,by omega,by omega,by go_num,F7,by rw [L.o];exact O7⟩,by simp [intOf];omega⟩
    ·obtain rfl:k=i:=oM;have t2:decide ((k:Int) < (k:Int))=false:=by simp
     have BG:=zH (fun r Z=>yk G.o l HL.o J.o r Z);rw [HX.o] at BG;have ad:∀ (r:Int) (w8:World),((x=0∧r=0) ∨ (0 < x∧LeastFree (takenTo sz un z k k) x r)) → Far I w8 → Far w w8∧Own (ab .i64) w8 (fun _=>False) w.heap.size 3 (.slice A7 k c7) k z∧best sz un z k=r∧0≤r∧cand sz z k r∧r+x≤1073741824:=by
      intro r w8 Z hf;obtain ⟨q1,q2,q3⟩:=BG.o r Z;refine ⟨F.o.trans hf,O.o.below hf.out (lR _) (fun _ h=>h.elim),q1,q2,q3,?_⟩;have:=(G.o.push l J.o q2 q3).small (n:=n) oM k2 J.o k oM;rw [getD_append,G.o.len,if_neg oM,if_pos rfl,HX.o] at this;exact this.2
     have an:=zH ad;clear ad;have fz:=F.o.size;by_cases B:0 < x;rotate_left
     ·have y1:decide (0 < x)=false:=sO;have x0:x=0:=oM;obtain ⟨R,f2,f3,f4,f5,f6⟩:=an.o 0 wr (.inl ⟨x0,rfl⟩) f.o;obtain ⟨ON,FN,FG⟩:=zh3 f2 R (G.o.push l J.o f4 f5);rw [f3] at d g;have z0:=R.size;have X0:=zH x0;have e1:IntKind.i64.wrap ((0:Int)+x)=0+x:=wJ;clear R f2 f3 f5 B x0
      go_wp2_with (at_builtin;refine wpList_push (t:=ab .i64) rfl (.tmp 63) (.tmp 65) rfl iN rfl ON.o 1 rfl (0:Int) ⟨rfl,by rw [ai];omega⟩ mL oM z0 (fun _ h=>h.elim) ?_;intro v' w3 s g3 P)
      obtain ⟨O3,F3⟩:=zh2 s (Far.mk (FN.o.out.grown g3 FN.o.out.size (fun j S=>(ON.o.lt j S).1)));clear s g3 P;go_wp2_with fail;all_goals exact ⟨⟨k+1,by omega,by go_num,by rw [d.o];first|rfl|(congr 1;omega),F3,by rw [g.o];exact O3,by rw [g.o];exact FG,by rw [d.o];exact zH oM⟩,by simp [intOf];omega⟩
     ·have y1:decide (0 < x)=true:=by simp;exact B
      have ba:x≤1048576:=bn.2;have z9:=f.o.size;have TB:=zH (show ∀ y ∈ takenTo sz un z k k,0≤y.1∧y.1≤1099511627776∧0≤y.2∧y.2≤1099511627776 from fun y hy=>by
       obtain ⟨j,q1,q2,q3,rfl⟩:=takenTo_mem.1 hy;have g1:=GS.o j q1;have g2:=J.o j oM;simp only
       omega)
      obtain ⟨CF,X0⟩:=zh2 (uY u11 q I.heap.size _ x wr V.o ⟨B,ba⟩ TB.o oM z9) B;clear B ba z9 TB;go_wp2_with fail;refine CF.o.mono ?_;rintro e w8 ⟨r,rfl,Z,ay⟩;obtain ⟨R,f2,f3,f4,f5,f6⟩:=an.o r w8 (.inr ⟨X0.o,Z⟩) ⟨f.o.out.trans ay⟩;obtain ⟨ON,FN,FG⟩:=zh3 f2 R (G.o.push l J.o f4 f5);rw [f3] at d g;have z0:=R.size;have e1:IntKind.i64.wrap (r+x)=r+x:=wJ;have R4:=zH f4;clear R f2 f3 f5 Z ay
      go_wp2_with (at_builtin;refine wpList_push (t:=ab .i64) rfl (.tmp 63) (.tmp 65) rfl iN rfl ON.o 1 rfl r ⟨rfl,by rw [ai];omega⟩ mL oM z0 (fun _ h=>h.elim) ?_;intro v' w3 s g3 P)
      obtain ⟨O3,F3⟩:=zh2 s (Far.mk (FN.o.out.grown g3 FN.o.out.size (fun j S=>(ON.o.lt j S).1)));clear s g3 P;go_wp2_with fail;all_goals exact ⟨⟨k+1,by omega,by go_num,by rw [d.o],F3,by rw [g.o];exact O3,by rw [g.o];exact FG,by rw [d.o];exact zH oM⟩,by simp [intOf];omega⟩
  ·obtain rfl:i=n:=oM;have t1:decide ((i:Int) < (i:Int))=false:=by simp
   obtain ⟨A7,c7,rfl,D⟩:=O.o.sl (S':=bin w wr) dM (fun b h1 h2=>⟨h1,h2⟩) (fun _ h=>h.elim);have SA:=zH D;clear D;go_wp2
   go_ret3
   unfold jQ;rw [if_pos C.o];exact ⟨A7,c7,by rw [ah.o];rfl,SA.o,F.o.out⟩
end Go.Proofs.YtbecbfpoahhpnaaGreat
