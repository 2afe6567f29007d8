/-
  Rows multiplied (layer 13): gemm.Dot of rows that are as long; gemm.may of three numbers.
  A bias is added, channel by channel (layer 14: lower.biased's function).
  Rows multiplied (layer 13): gemm.may where all is within bounds.
  Numbers scaled and held (layer 2): fix.Scale, fix.Held, the document's Held.
  Sums scaled and held, all of a row (layer 2): fix.All, the document's All.
-/
import Derived.Test.YtjkmjpjknmghlaaGreatJ15
import Derived.Test.YtjkmjpjknmghlaaGreatJ21
import Derived.Test.YtjkmjpjknmghlaaGreatJ22
set_option linter.unusedVariables false
set_option linter.unusedSimpArgs false
namespace Go.Proofs.YtjkmjpjknmghlaaGreat
open Go.RowKit Go.ChangeShapes Go.WideShapes Fx
set_option maxRecDepth 100000
set_option maxHeartbeats 4000000
def dotN (a b:List Int) (n:Nat):Int:=sumN n fun i=>a.getD i 0*b.getD i 0
theorem dot_any (A A':Option Addr) (n cap cap':Nat) (a b:List Int) (w:World) (ha:Sl (tInt .i16) w (blo w.heap.size) A n cap a) (hb:Sl (tInt .i8) w (blo w.heap.size) A' n cap' b) (hn:n≤65536) :
  Calls Tryz.prog 163 #[.slice A n cap,.slice A' n cap'] w fun e w'=>e=.returned (.int .i32 (wrap32 (dotN a b n)))∧Below w.heap.size w w':=by
 have HA:=zH ha
 have HB:=zH hb
 have z0:=zH (show wrap32 (dotN a b 0)=0 by unfold dotN;rw [show sumN 0 (fun i=>a.getD i 0*b.getD i 0)=0 from rfl];unfold wrap32;decide)
 clear ha hb
 go_enter Tryz.func163,Tryz.ntmps163
 go_wp2_with fail
 go_loopw [5,12] (fun u ii wr=>∃ k:Nat,k≤n∧ii=.int .i64 k∧u=.int .i32 (wrap32 (dotN a b k))∧Below w.heap.size w wr) (fun _ ii _=>n - (intOf ii).toNat)
 case atStart=>exact ⟨0,Nat.zero_le _,rfl,by rw [z0.out],Below.refl _ _⟩
 case round =>
  obtain ⟨k,hk,rfl,rfl,hbl⟩:=hrel
  have HBL:=zH hbl
  clear hbl
  by_cases hlt:k < n
  ·have p1:(k:Int) < (n:Int):=by omega
   obtain ⟨ba,oa,rfl,-,-,cx,ix⟩:=((Old.now HA.out).fut HBL.out).all.int_at k hlt
   obtain ⟨bz,oz,rfl,-,-,cy,iy⟩:=((Old.now HB.out).fut HBL.out).all.int_at k hlt
   have hs:dotN a b (k+1)=dotN a b k+a.getD k 0*b.getD k 0:=rfl
   obtain ⟨x,hx⟩:∃ x,a.getD k 0=x:=⟨_,rfl⟩
   obtain ⟨y,hy⟩:∃ x,b.getD k 0=x:=⟨_,rfl⟩
   rw [hx] at cx ix hs
   rw [hy] at cy iy hs
   rw [inK_i16] at ix
   rw [inK_i8] at iy
   have hm:=natAbs_mul_le (a:=x) (b:=y) (m:=32768) (n:=128) (by omega) (by omega)
   obtain ⟨i1,i2⟩:=ix
   obtain ⟨i3,i4⟩:=iy
   obtain ⟨pr,hpr⟩:∃ m,x*y=m:=⟨_,rfl⟩
   rw [hpr] at hm hs
   have m1:-4194304≤pr:=by omega
   have m2:pr≤4194304:=by omega
   obtain ⟨D,hD⟩:∃ m,dotN a b k=m:=⟨_,rfl⟩
   rw [hD] at hs ⊢
   have HS:=zH hs
   obtain ⟨ac,hac⟩:∃ m,wrap32 D=m:=⟨_,rfl⟩
   have HC:=zH hac
   have b1:-2147483648≤ac:=by rw [← hac];exact (wrap32_in D).1
   have b2:ac≤2147483647:=by rw [← hac];exact (wrap32_in D).2
   rw [hac]
   clear hx hy hs hm hD hac
   go_wp2_with fail
   go_quiet (fail)
   go_wp2_with fail
   exact ⟨⟨k+1,by omega,by go_num,by rw [HS.out,← HC.out,wrap32_add],below_drewN HBL.out _⟩,by simp [intOf];omega⟩
  ·obtain rfl:k=n:=by omega
   go_wp2_with fail
   go_ret
   exact ⟨rfl,HBL.out⟩
end Go.Proofs.YtjkmjpjknmghlaaGreat
namespace Go.Proofs.YtjkmjpjknmghlaaGreat
open Go.RowKit Go.ChangeShapes Go.WideShapes Fx
set_option maxRecDepth 100000
set_option maxHeartbeats 4000000
theorem grown_tr {w w1 w2:World} {r:Option Nat} (h:w.grownBy w1 r) (h':w1.grownBy w2 r):w.grownBy w2 r :=
 ⟨h'.os.trans h.os,h'.tape.trans h.tape,h'.output.trans h.output,Nat.le_trans h.size h'.size,fun k hk hne=>(h'.block k (Nat.lt_of_lt_of_le hk h.size) hne).trans (h.block k hk hne)⟩
theorem grown_drew (w:World) (r:Option Nat):w.grownBy w.drew r:=⟨rfl,rfl,rfl,Nat.le_refl _,fun _ _ _=>rfl⟩
theorem grown_self (w:World) (r:Option Nat):w.grownBy w r:=⟨rfl,rfl,rfl,Nat.le_refl _,fun _ _ _=>rfl⟩
def stM (f g:Nat → Int) (n k:Nat):List Int:=(List.range n).map fun i=>if i < k then f i else g i
theorem stM_zero (f g:Nat → Int) (n:Nat):stM f g n 0=(List.range n).map g:=by unfold stM;apply List.map_congr_left;intro i _;rw [if_neg (by omega)]
theorem stM_all (f g:Nat → Int) (n:Nat):stM f g n n=(List.range n).map f:=by unfold stM;apply List.map_congr_left;intro i hi;rw [if_pos (List.mem_range.1 hi)]
theorem stM_at (f g:Nat → Int) (n k:Nat) (h:k < n):(stM f g n k)[k]?=some (g k):=by
 unfold stM
 rw [List.getElem?_map,List.getElem?_range h]
 simp
theorem stM_set (f g:Nat → Int) (n k:Nat):(stM f g n k).set k (f k)=stM f g n (k+1):=by
 unfold stM
 apply List.ext_getElem (by simp)
 intro i h1 h2
 rw [List.getElem_set]
 simp only [List.getElem_map,List.getElem_range]
 by_cases e:k=i
 ·subst e;rw [if_pos rfl,if_pos (by omega)]
 ·rw [if_neg e]
  by_cases h:i < k
  ·rw [if_pos h,if_pos (by omega)]
  ·rw [if_neg h,if_neg (by omega)]
theorem list_range {l:List Int} {n:Nat} (h:l.length=n):(List.range n).map (fun i=>l.getD i 0)=l:=by
 subst h
 apply List.ext_getElem (by simp)
 intro i h1 h2
 simp at h1
 simp [List.getD_eq_getElem?_getD,List.getElem?_eq_getElem h1]
theorem biased_any (p:Addr) (B:Option Addr) (nb cb:Nat) (bl:List Int) (m base q N:Nat) (l:List Int) (w:World) (hb:Sl (tInt .i32) w (blo m) B nb cb bl) (hm:m≤base) (hp:w.cell? p=some (.slice B nb cb)) (hpq:p.block ≠ q)
  (hown:Own (tInt .i32) w (fun _=>False) base 21 (.slice (some ⟨q,0,none⟩) N N) N l) (hnb:1≤nb) (hN:N≤65536) :
  Calls Tryz.prog 152 #[.slice (some ⟨q,0,none⟩) N N,.pointer (some p)] w fun e w'=>e=.returned (.tuple #[])∧Own (tInt .i32) w' (fun _=>False) base 21 (.slice (some ⟨q,0,none⟩) N N) N ((List.range N).map fun i=>wrap32 (l.getD i 0+bl.getD (i % nb) 0))∧w.grownBy w' (some q):=by
 have HB:=zH hb
 have HP:=zH hp
 have mx:=Nat.le_trans hb.cap_le hb.max_le
 have mx2:nb≤9223372036854775807:=mx
 have lq:=hown.lt _ rfl
 have PQ:=zH hpq
 have hlen:=hown.length (by decide)
 have ON:=zH (show Own (tInt .i32) w (fun _=>False) base 21 (.slice (some ⟨q,0,none⟩) N N) N (stM (fun i=>wrap32 (l.getD i 0+bl.getD (i % nb) 0)) (fun i=>l.getD i 0) N 0) by rw [stM_zero,list_range hlen];exact hown)
 have nz:¬ nb=0:=by omega
 have nz2:(nb:Int) ≠ 0:=by omega
 clear hb hp hown hlen hpq mx
 go_enter Tryz.func152,Tryz.ntmps152
 go_wp2_with fail
 go_loopw [6] (fun ii wr=>∃ k:Nat,k≤N∧ii=.int .i64 k∧w.grownBy wr (some q)∧Own (tInt .i32) wr (fun _=>False) base 21 (.slice (some ⟨q,0,none⟩) N N) N (stM (fun i=>wrap32 (l.getD i 0+bl.getD (i % nb) 0)) (fun i=>l.getD i 0) N k)) (fun ii _=>N - (intOf ii).toNat)
 case atStart=>exact ⟨0,Nat.zero_le _,rfl,grown_self _ _,ON.out⟩
 case round =>
  obtain ⟨k,hk,rfl,hg,hon⟩:=hrel
  clear ON
  have GR:=zH hg
  have ON:=zH hon
  clear hg hon
  by_cases hlt:k < N
  ·have p1:(k:Int) < (N:Int):=by omega
   obtain ⟨kb,hkb⟩:∃ x,k % nb=x:=⟨_,rfl⟩
   have hkl:kb < nb:=by rw [← hkb];exact Nat.mod_lt _ hnb
   have d1:(k:Int).tmod (nb:Int)=(kb:Int):=by rw [← hkb,Int.tmod_eq_emod_of_nonneg (by omega)];simp
   have d2:(k:Int) % (nb:Int)=(kb:Int):=by rw [← hkb];simp
   have g1:IntKind.i64.wrap (kb:Int)=(kb:Int):=IntWalk.i64_in _ (by omega)
   have hp:wr.cell? p=some (.slice B nb cb):=cell_grown GR.out HP.out (fun e=>PQ.out (Option.some.inj e))
   obtain ⟨bz,oz,rfl,hz1,-,cy,iy⟩:=HB.out.int_at kb hkl
   have cy':wr.cell? ⟨bz,oz+kb,none⟩=some (.int .i32 (bl.getD kb 0)):=cell_grown GR.out cy (fun e=>by have:=Option.some.inj e;simp only at this;unfold blo at hz1;omega)
   obtain ⟨x0,u0,hx0,hu0,c5,c6,c7,-⟩:=ON.out.cell rfl k hlt
   rw [stM_at _ _ _ _ hlt] at hx0
   obtain ⟨hu1,hu2⟩:=hu0
   simp only [List.cons.injEq,and_true] at hu1
   subst hu1
   have hx1:=Option.some.inj hx0
   have FS:=zH (stM_set (fun i=>wrap32 (l.getD i 0+bl.getD (i % nb) 0)) (fun i=>l.getD i 0) N k)
   obtain ⟨y,hy⟩:∃ x,bl.getD kb 0=x:=⟨_,rfl⟩
   rw [hy] at cy'
   obtain ⟨res,hres⟩:∃ r,wrap32 (x0+y)=r:=⟨_,rfl⟩
   have e6:IntKind.i32.wrap (x0+y)=res:=by rw [IntKind.wrap_i32,← hres];unfold wrap32;rfl
   have FE:=zH (show wrap32 (l.getD k 0+bl.getD (k % nb) 0)=res by rw [hkb,hy,hx1,hres])
   have RE:=zH (show InK .i32 res by rw [inK_i32,← hres];exact wrap32_in _)
   clear hkb hy hres hx0 hx1 cy hu2
   go_wp2_with fail
   go_still_tail 12,(by kernel_rfl)
   change wpList _ _ _ _ _ wr.drew
   have G2:=zH (grown_tr GR.out (grown_drew wr (some q)))
   have O2:=zH (ON.out.heap (w':=wr.drew) rfl)
   clear c5 c6 c7 cy' hp ON GR
   generalize wr.drew=wy at *
   obtain ⟨x9,u9,-,-,c5,c6,c7,-⟩:=O2.out.cell rfl k hlt
   go_wp2_with fail
   obtain ⟨o3,g3⟩:=O2.out.set1 rfl k (.int .i32 res) res ⟨rfl,RE.out⟩ (fun _ h=>h.elim)
   have fs:=FS.out
   simp only [FE.out] at fs
   rw [fs] at o3
   exact ⟨⟨k+1,by omega,by go_num,grown_tr G2.out g3,o3⟩,by simp [intOf];omega⟩
  ·obtain rfl:k=N:=by omega
   go_wp2_with fail
   ((try simp only [Exit.inBlock,Exit.then]);refine bodyPost_end (results_none rfl _ _ _) rfl ?_)
   have e:=ON.out
   rw [stM_all] at e
   exact ⟨rfl,e,GR.out⟩
end Go.Proofs.YtjkmjpjknmghlaaGreat
namespace Go.Proofs.YtjkmjpjknmghlaaGreat
open Go.RowKit Go.ChangeShapes Go.WideShapes Fx
set_option maxRecDepth 100000
set_option maxHeartbeats 4000000
theorem gemMay_any (A:Option Addr) (n cap:Nat) (l:List Int) (w:World) (hl:Sl (tInt .i64) w (blo w.heap.size) A n cap l) (hn:n≤1024) (hb:∀ i,i < n → 1≤l.getD i 0∧l.getD i 0≤16384) :
  Calls Tryz.prog 150 #[.slice A n cap] w fun e w'=>e=.returned (.bool true)∧w=w':=by
 have H:=zH hl
 have HB:=zH hb
 clear hl hb
 go_enter Tryz.func150,Tryz.ntmps150
 go_wp2_with fail
 go_loopw [7] (fun ii wr=>∃ k:Nat,k≤n∧ii=.int .i64 k∧w=wr) (fun ii _=>n - (intOf ii).toNat)
 case atStart=>exact ⟨0,Nat.zero_le _,rfl,rfl⟩
 case round =>
  obtain ⟨k,hk,rfl,rfl⟩:=hrel
  by_cases hlt:k < n
  ·have p1:(k:Int) < (n:Int):=by omega
   obtain ⟨b,o,rfl,-,-,cx,ix⟩:=H.out.int_at k hlt
   obtain ⟨x1,x2⟩:=HB.out k hlt
   obtain ⟨x,hx⟩:∃ x,l.getD k 0=x:=⟨_,rfl⟩
   rw [hx] at cx ix x1 x2
   have t1:¬ x < 1:=by omega
   have t2:¬ 16384 < x:=by omega
   clear hx
   go_wp2_with fail
   exact ⟨⟨k+1,by omega,by go_num,by trivial⟩,by simp [intOf];omega⟩
  ·obtain rfl:k=n:=by omega
   go_wp2_with fail
   go_ret
   exact ⟨rfl,by trivial⟩
end Go.Proofs.YtjkmjpjknmghlaaGreat
namespace Go.Proofs.YtjkmjpjknmghlaaGreat
open Go.RowKit Go.ChangeShapes Go.WideShapes Fx
set_option maxRecDepth 100000
set_option maxHeartbeats 2000000
theorem roundV_le (v s:Int) (b:Nat) (h:v.natAbs≤b):(roundV v s).natAbs≤b:=by
 unfold roundV
 have:=sizeR_le v.natAbs s.toNat
 split
 ·simp
 ·split <;> omega
theorem prod32 {a b:Int} (ha:InK .i32 a) (hb:InK .i32 b):(a*b).natAbs≤4611686018427387904:=by
 rw [inK_i32] at ha hb
 exact Nat.le_trans (natAbs_mul_le (m:=2147483648) (n:=2147483648) (by omega) (by omega)) (by decide)
theorem scale_any (acc m s:Int) (w:World) (ha:InK .i32 acc) (hm:InK .i32 m) :
  Calls Tryz.prog 131 #[.int .i32 acc,.int .i32 m,.int .i64 s] w fun e w'=>e=.returned (.int .i64 (roundV (acc*m) s))∧Below w.heap.size w w':=by
 have hp:=prod32 ha hm
 rw [inK_i32] at ha hm
 obtain ⟨a1,a2⟩:=ha
 obtain ⟨m1,m2⟩:=hm
 obtain ⟨p,hpp⟩:∃ p,acc*m=p:=⟨_,rfl⟩
 rw [hpp] at hp ⊢
 have e1:IntKind.i64.wrap (acc*m)=p:=by rw [hpp];exact IntWalk.i64_in _ (by omega)
 have RA:=zH (fun w=>round_any p s w (by rw [inK_i64];omega))
 have e3:p≤4611686018427387904:=by omega
 have e4:-4611686018427387904≤p:=by omega
 clear hp
 go_enter Tryz.func131,Tryz.ntmps131
 go_wp2_with (go_at_call 140;refine (RA.out _).mono ?_;rintro e w2 ⟨rfl,hb⟩)
 go_ret
 exact ⟨rfl,hb⟩
def heldQ (acc m s z lo hi:Int):Int:=if quantOk m s=true then w8 (heldV (roundV (acc*m) s+z) lo hi) else 0
theorem heldQ_in (acc m s z lo hi:Int):InK .i8 (heldQ acc m s z lo hi):=by
 unfold heldQ
 split
 ·exact w8_in _
 ·decide
theorem fixHeld_any (acc m s z lo hi:Int) (w:World) (ha:InK .i32 acc) (hm:InK .i32 m) (hz:InK .i8 z) (hlo:InK .i8 lo) (hhi:InK .i8 hi) :
  Calls Tryz.prog 132 #[.int .i32 acc,.agg #[.int .i32 m,.int .i64 s,.int .i8 z],.int .i8 lo,.int .i8 hi] w fun e w'=>e=.returned (.int .i8 (heldQ acc m s z lo hi))∧Below w.heap.size w w':=by
 have hp:=roundV_le (acc*m) s _ (prod32 ha hm)
 have QR:=zH (fun w=>fixRight_any m s z w)
 have SC:=zH (fun w=>scale_any acc m s w ha hm)
 have HH:=zH (show heldQ acc m s z lo hi=if quantOk m s=true then w8 (heldV (roundV (acc*m) s+z) lo hi) else 0 from rfl)
 obtain ⟨r,hr⟩:∃ r,roundV (acc*m) s=r:=⟨_,rfl⟩
 rw [hr] at hp SC HH
 rw [inK_i8] at hz
 obtain ⟨z1,z2⟩:=hz
 have e1:IntKind.i64.wrap (r+z)=r+z:=IntWalk.i64_in _ (by omega)
 have e2:IntKind.i64.wrap z=z:=IntWalk.i64_in _ (by omega)
 have CL:=zH (fun w=>clamp_any (r+z) lo hi w hlo hhi)
 obtain ⟨q,hq⟩:∃ q,quantOk m s=q:=⟨_,rfl⟩
 rw [hq] at QR HH
 have FR:=zH (Far.refl w)
 obtain ⟨w1,hw_w1,BQ,k_w1⟩:=nB w #[.int .i32 m,.int .i64 s,.int .i8 z] 42
 replace FR:=zH (FR.out.fut k_w1)
 clear k_w1
 have d0:=BQ.out.cell 0
 have d1:=BQ.out.cell 1
 have d2:=BQ.out.cell 2
 clear hr hq ha hm hlo hhi
 cases q with
 | false =>
  rw [if_neg (by decide)] at HH
  rw [HH.out]
  go_enter Tryz.func132,Tryz.ntmps132
  go_wp2_with (go_at_call 73;refine (QR.out _).mono ?_;rintro e w2 ⟨rfl,hb⟩)
  go_ret
  exact ⟨rfl,(FR.out.fut hb).out⟩
 | true =>
  rw [if_pos rfl] at HH
  rw [HH.out]
  go_enter Tryz.func132,Tryz.ntmps132
  go_wp2_with (go_at_call 73;refine (QR.out _).mono ?_;rintro e w2 ⟨rfl,hb⟩)
  replace FR:=zH (FR.out.fut hb)
  replace BQ:=zH (BQ.out.fut hb)
  clear d0 d1 d2 hw_w1 hb
  have d0:∀ q:Ext w2,q.1.cell? ⟨w.heap.size,0,none⟩=some (.int .i32 m):=fun q=>(BQ.out.ext q).cell 0
  have d1:∀ q:Ext w2,q.1.cell? ⟨w.heap.size,1,none⟩=some (.int .i64 s):=fun q=>(BQ.out.ext q).cell 1
  have d2:∀ q:Ext w2,q.1.cell? ⟨w.heap.size,2,none⟩=some (.int .i8 z):=fun q=>(BQ.out.ext q).cell 2
  have E1:=zH (fun q:Ext w2=>calls_ext q (SC.out q.1))
  have E2:=zH (fun q:Ext w2=>calls_ext q ((CL.out q.1).mono (fun e w' h=>⟨h.1,by rw [← h.2];exact Below.refl _ _⟩)))
  refine wp_region_ext w2 (by kernel_rfl) (by kernel_rfl) (Below.refl _ _) ?_
  repeat (go_big_quiet_step (first|(exact E1.out _)|(exact E2.out _)))
  refine wpQuiet_nil ?_
  rintro _ ⟨⟨w3,hB⟩,rfl⟩
  go_wp2_with fail
  go_ret
  exact ⟨rfl,(FR.out.fut hB).out⟩
end Go.Proofs.YtjkmjpjknmghlaaGreat
namespace Go.Proofs.YtjkmjpjknmghlaaGreat
open Go.RowKit Go.ChangeShapes Go.WideShapes Fx
set_option maxRecDepth 100000
set_option maxHeartbeats 4000000
theorem ei_b8:EI Tryz.prog 25 39 (.int .i8 0) 1 1:=⟨Tryz.underlying25,by kernel_rfl,rfl,by decide⟩
def allQ (l:List Int) (m s z lo hi:Int):List Int:=l.map fun x=>heldQ x m s z lo hi
theorem allQ_range {l:List Int} {n:Nat} (h:l.length=n) (m s z lo hi:Int):allQ l m s z lo hi=(List.range n).map fun i=>heldQ (l.getD i 0) m s z lo hi:=by
 subst h
 unfold allQ
 apply List.ext_getElem (by simp)
 intro i h1 h2
 simp at h1
 simp [List.getD_eq_getElem?_getD,List.getElem?_eq_getElem h1]
theorem fixAll_any (A:Option Addr) (n cap:Nat) (l:List Int) (m s z lo hi:Int) (w:World) (hl:Sl (tInt .i32) w (blo w.heap.size) A n cap l) (hn:n≤1073741824) (hm:InK .i32 m) (hz:InK .i8 z) (hlo:InK .i8 lo) (hhi:InK .i8 hi) (hq:quantOk m s=true) :
  Calls Tryz.prog 124 #[.slice A n cap,.agg #[.int .i32 m,.int .i64 s,.int .i8 z],.int .i8 lo,.int .i8 hi] w (RetSl (tInt .i8) w (allQ l m s z lo hi)):=by
 have HL:=zH hl
 have QR:=zH (fun w=>fixRight_any m s z w)
 rw [hq] at QR
 rw [allQ_range hl.n_eq]
 have HD:=zH (fun x (hx:InK .i32 x) w=>fixHeld_any x m s z lo hi w hx hm hz hlo hhi)
 have mx:n≤9223372036854775807:=by omega
 have FR:=zH (Far.refl w)
 obtain ⟨w1,hw_w1,BQ,k_w1⟩:=nB w #[.int .i32 m,.int .i64 s,.int .i8 z] 42
 replace FR:=zH (FR.out.fut k_w1)
 clear k_w1
 have l1:w.heap.size < w1.heap.size:=by rw [← hw_w1];simp
 have d0:=BQ.out.cell 0
 have d1:=BQ.out.cell 1
 have d2:=BQ.out.cell 2
 clear hq hm hz hlo hhi hl
 go_enter Tryz.func124,Tryz.ntmps124
 go_wp2_with (first|(go_at_call 73;refine (QR.out _).mono ?_;rintro e w2 ⟨rfl,hb⟩;have l2:=hb.size;replace FR:=zH (FR.out.fut hb);replace BQ:=zH (BQ.out.fut hb);clear hb d0 d1 d2 hw_w1)|(at_make;refine wpList_make (t:=tInt .i8) (S:=fun _=>False) (base:=w1.heap.size) rfl _ _ rfl ei_b8 .i64 .i64 _ _ n rfl rfl rfl rfl ?_ ?_ ?_ 0 ⟨rfl,by decide⟩ (fun _ h=>h.elim) ?_;rotate_right;intro w3 hown hg))
 rotate_left
 ·omega
 ·unfold maxLen;omega
 ·omega
 have kb:Below w2.heap.size w2 w3:=(Below.refl _ _).grown hg (Nat.le_refl _) (by simp)
 replace hown:=(filling_zero 0 (fun i=>heldQ (l.getD i 0) m s z lo hi) n).symm ▸ hown
 have ON:=zH hown
 have LG:=zH (show w.heap.size < w2.heap.size by omega)
 replace FR:=zH (FR.out.fut kb)
 replace BQ:=zH (BQ.out.fut kb)
 clear kb
 clear hown hg QR
 go_loopw [19] (fun ii wr=>∃ k:Nat,k≤n∧ii=.int .i64 k∧Far w wr∧Blk wr w.heap.size 42 #[.int .i32 m,.int .i64 s,.int .i8 z]∧Own (tInt .i8) wr (fun _=>False) w1.heap.size 39 (.slice (some ⟨w2.heap.size,0,none⟩) n n) n (filling 0 (fun i=>heldQ (l.getD i 0) m s z lo hi) n k)) (fun ii _=>n - (intOf ii).toNat)
 case atStart=>exact ⟨0,Nat.zero_le _,rfl,FR.out,BQ.out,ON.out⟩
 case round =>
  obtain ⟨k,hk,rfl,hf,hbq,hon⟩:=hrel
  clear FR BQ ON
  have FR:=zH hf
  have BQ:=zH hbq
  have ON:=zH hon
  clear hf hbq hon
  by_cases hlt:k < n
  ·have p1:(k:Int) < (n:Int):=by omega
   go_wp2_with fail
   obtain ⟨b,o,rfl,-,-,cx,ix⟩:=((Old.now HL.out).fut FR.out.out).all.int_at k hlt
   have FS:=zH (filling_set 0 (fun i=>heldQ (l.getD i 0) m s z lo hi) n k hlt)
   obtain ⟨x,hx⟩:∃ x,l.getD k 0=x:=⟨_,rfl⟩
   rw [hx] at cx ix
   have CX:=zH (HD.out x ix)
   have FE:=zH (show heldQ (l.getD k 0) m s z lo hi=heldQ x m s z lo hi by rw [hx])
   obtain ⟨res,hres⟩:∃ r,heldQ x m s z lo hi=r:=⟨_,rfl⟩
   rw [hres] at CX FE
   have RE:=zH (show InK .i8 res by rw [← hres];exact heldQ_in _ _ _ _ _ _)
   clear hx hres
   refine wp_region_T (fun w'=>w'.cell? ⟨b,o+k,none⟩=some (.int .i32 x)∧Blk w' w.heap.size 42 #[.int .i32 m,.int .i64 s,.int .i8 z]∧Below wr.drew.heap.size wr.drew w') 10 (by kernel_rfl) ?_ (fun hS=>?_)
   ·exact ⟨cell_later ((Below.refl _ _).drew) cx,BQ.out.drew,Below.refl _ _⟩
   refine kT 0 rfl hS ?_
   try simp only [pX]
   refine kT 1 rfl hS ?_
   try simp only [pX]
   refine kT 2 rfl hS ?_
   try simp only [pX]
   refine kT 3 rfl hS ?_
   try simp only [pX]
   refine kT 4 rfl hS ?_
   try simp only [pX]
   refine kT 5 rfl hS ?_
   try simp only [pX]
   refine tkT 6 rfl (yieldsIf_load_blk (by rfl) 42 (.tmp 5) rfl w.heap.size 0 rfl _ _ #[.int .i32 m,.int .i64 s,.int .i8 z] _ (fun w hs=>hs.2.1) Tryz.underlying42 rfl (by kernel_rfl) rfl) hS ?_
   try simp only [pX]
   refine kT 7 rfl hS ?_
   try simp only [pX]
   refine kT 8 rfl hS ?_
   try simp only [pX]
   refine wpAnyT_one (i:=9) (by kernel_rfl) rfl rfl (fun K hK=>?_)
   go_simp
   refine (CX.out _).mono ?_;rintro e wm ⟨rfl,hb⟩
   refine hK.out _ _ ?_ (fun hS=>?_)
   ·exact ⟨(by first|exact cell_later hb hS.1|exact Blk.later hS.1 hb),(by first|exact cell_later hb hS.2.1|exact Blk.later hS.2.1 hb),(by first|exact below_later hb hS.2.2|exact grown_below hS.2.2 hb)⟩
   clear hK K
   try simp only [pX]
   refine wpAnyT_tail _ _ rfl rfl (by kernel_rfl) ?_
   have kd:=(show Below wr.heap.size wr wr.drew from (Below.refl _ _).drew).trans hb
   replace ON:=zH (ON.out.below kd (Nat.le_refl _) (fun _ h=>h.elim))
   replace FR:=zH (FR.out.fut kd)
   replace BQ:=zH (BQ.out.fut kd)
   clear hS hb kd cx
   obtain ⟨x1,u1,-,-,c5,c6,c7,-⟩:=ON.out.cell rfl k hlt
   go_wp2_with fail
   obtain ⟨o3,g3⟩:=ON.out.set1 rfl k (.int .i8 res) res ⟨rfl,RE.out⟩ (fun _ h=>h.elim)
   have fs:=FS.out
   rw [FE.out] at fs
   rw [fs] at o3
   have lg:=LG.out
   exact ⟨⟨k+1,by omega,by go_num,FR.out.away g3 (by omega),BQ.out.away g3 (.inl lg),o3⟩,by simp [intOf];omega⟩
  ·obtain rfl:k=n:=by omega
   go_wp2_with fail
   go_ret
   have e:=ON.out
   rw [filling_all] at e
   obtain ⟨A2,c2,hv,sl⟩:=e.sl (S':=bin w.heap.size _) (by decide) (fun b h1 h2=>⟨by omega,h2⟩) (fun b h=>h.elim)
   injection hv with hv1 hv2 hv3
   subst hv1 hv3
   exact ⟨_,_,_,rfl,sl,FR.out.out⟩
end Go.Proofs.YtjkmjpjknmghlaaGreat
