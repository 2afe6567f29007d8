/-
  A bias is added, channel by channel (layer 14: lower.biased's function).
  Windows as rows (layer 12): patch.Of's function.
  Windows as rows (layer 12): slide.each, by which patch.Of's rows are filled.
  Rows multiplied (layer 13): gemm.may where all is within bounds.
  The numbers in a window of one channel (layer 19, the document's Window).
  The numbers of a window, one by one (layer 19: the function of pool.window).
  Numbers of eight bits that an iterator hands out, gathered (slices.AppendSeq, slices.Collect); those of a window (layer 19).
  The least and the greatest number (layer 5, the document's Reach).
-/
import Derived.Test.YtjkmjpjknmghlaaGreatJ16
import Derived.Test.YtjkmjpjknmghlaaGreatJ17
import Derived.Test.YtjkmjpjknmghlaaGreatJ24
import Derived.RangeFuncNested
import Derived.RangeFuncBound
import Derived.OwnWalkIn
import Derived.TacticsInMore
import Derived.LoopNIn
import Derived.LoopIn
set_option linter.unusedVariables false
set_option linter.unusedSimpArgs false
namespace Go.Proofs.YtjkmjpjknmghlaaGreat
open Go.RowKit Go.ChangeShapes Go.WideShapes Fx
set_option maxRecDepth 100000
set_option maxHeartbeats 4000000
theorem grown_tr {w w1 w2:World} {r:Option Nat} (h:w.grownBy w1 r) (h':w1.grownBy w2 r):w.grownBy w2 r :=
 ⟨h'.os.trans h.os,h'.tape.trans h.tape,h'.output.trans h.output,Nat.le_trans h.size h'.size,fun k hk hne=>(h'.block k (Nat.lt_of_lt_of_le hk h.size) hne).trans (h.block k hk hne)⟩
theorem grown_drew (w:World) (r:Option Nat):w.grownBy w.drew r:=⟨rfl,rfl,rfl,Nat.le_refl _,fun _ _ _=>rfl⟩
theorem grown_self (w:World) (r:Option Nat):w.grownBy w r:=⟨rfl,rfl,rfl,Nat.le_refl _,fun _ _ _=>rfl⟩
def stM (f g:Nat → Int) (n k:Nat):List Int:=(List.range n).map fun i=>if i < k then f i else g i
theorem stM_zero (f g:Nat → Int) (n:Nat):stM f g n 0=(List.range n).map g:=by unfold stM;apply List.map_congr_left;intro i _;rw [if_neg (by omega)]
theorem stM_all (f g:Nat → Int) (n:Nat):stM f g n n=(List.range n).map f:=by unfold stM;apply List.map_congr_left;intro i hi;rw [if_pos (List.mem_range.1 hi)]
theorem stM_at (f g:Nat → Int) (n k:Nat) (h:k < n):(stM f g n k)[k]?=some (g k):=by
 unfold stM
 rw [List.getElem?_map,List.getElem?_range h]
 simp
theorem stM_set (f g:Nat → Int) (n k:Nat):(stM f g n k).set k (f k)=stM f g n (k+1):=by
 unfold stM
 apply List.ext_getElem (by simp)
 intro i h1 h2
 rw [List.getElem_set]
 simp only [List.getElem_map,List.getElem_range]
 by_cases e:k=i
 ·subst e;rw [if_pos rfl,if_pos (by omega)]
 ·rw [if_neg e]
  by_cases h:i < k
  ·rw [if_pos h,if_pos (by omega)]
  ·rw [if_neg h,if_neg (by omega)]
theorem list_range {l:List Int} {n:Nat} (h:l.length=n):(List.range n).map (fun i=>l.getD i 0)=l:=by
 subst h
 apply List.ext_getElem (by simp)
 intro i h1 h2
 simp at h1
 simp [List.getD_eq_getElem?_getD,List.getElem?_eq_getElem h1]
theorem biased_any (p:Addr) (B:Option Addr) (nb cb:Nat) (bl:List Int) (m base q N:Nat) (l:List Int) (w:World) (hb:Sl (tInt .i32) w (blo m) B nb cb bl) (hm:m≤base) (hp:w.cell? p=some (.slice B nb cb)) (hpq:p.block ≠ q)
  (hown:Own (tInt .i32) w (fun _=>False) base 21 (.slice (some ⟨q,0,none⟩) N N) N l) (hnb:1≤nb) (hN:N≤65536) :
  Calls Tryz.prog 152 #[.slice (some ⟨q,0,none⟩) N N,.pointer (some p)] w fun e w'=>e=.returned (.tuple #[])∧Own (tInt .i32) w' (fun _=>False) base 21 (.slice (some ⟨q,0,none⟩) N N) N ((List.range N).map fun i=>wrap32 (l.getD i 0+bl.getD (i % nb) 0))∧w.grownBy w' (some q):=by
 have HB:=zH hb
 have HP:=zH hp
 have mx:=Nat.le_trans hb.cap_le hb.max_le
 have mx2:nb≤9223372036854775807:=mx
 have lq:=hown.lt _ rfl
 have PQ:=zH hpq
 have hlen:=hown.length (by decide)
 have ON:=zH (show Own (tInt .i32) w (fun _=>False) base 21 (.slice (some ⟨q,0,none⟩) N N) N (stM (fun i=>wrap32 (l.getD i 0+bl.getD (i % nb) 0)) (fun i=>l.getD i 0) N 0) by rw [stM_zero,list_range hlen];exact hown)
 have nz:¬ nb=0:=by omega
 have nz2:(nb:Int) ≠ 0:=by omega
 clear hb hp hown hlen hpq mx
 go_enter Tryz.func152,Tryz.ntmps152
 go_wp2_with fail
 go_loopw [6] (fun ii wr=>∃ k:Nat,k≤N∧ii=.int .i64 k∧w.grownBy wr (some q)∧Own (tInt .i32) wr (fun _=>False) base 21 (.slice (some ⟨q,0,none⟩) N N) N (stM (fun i=>wrap32 (l.getD i 0+bl.getD (i % nb) 0)) (fun i=>l.getD i 0) N k)) (fun ii _=>N - (intOf ii).toNat)
 case atStart=>exact ⟨0,Nat.zero_le _,rfl,grown_self _ _,ON.out⟩
 case round =>
  obtain ⟨k,hk,rfl,hg,hon⟩:=hrel
  clear ON
  have GR:=zH hg
  have ON:=zH hon
  clear hg hon
  by_cases hlt:k < N
  ·have p1:(k:Int) < (N:Int):=by omega
   obtain ⟨kb,hkb⟩:∃ x,k % nb=x:=⟨_,rfl⟩
   have hkl:kb < nb:=by rw [← hkb];exact Nat.mod_lt _ hnb
   have d1:(k:Int).tmod (nb:Int)=(kb:Int):=by rw [← hkb,Int.tmod_eq_emod_of_nonneg (by omega)];simp
   have d2:(k:Int) % (nb:Int)=(kb:Int):=by rw [← hkb];simp
   have g1:IntKind.i64.wrap (kb:Int)=(kb:Int):=IntWalk.i64_in _ (by omega)
   have hp:wr.cell? p=some (.slice B nb cb):=cell_grown GR.out HP.out (fun e=>PQ.out (Option.some.inj e))
   obtain ⟨bz,oz,rfl,hz1,-,cy,iy⟩:=HB.out.int_at kb hkl
   have cy':wr.cell? ⟨bz,oz+kb,none⟩=some (.int .i32 (bl.getD kb 0)):=cell_grown GR.out cy (fun e=>by have:=Option.some.inj e;simp only at this;unfold blo at hz1;omega)
   obtain ⟨x0,u0,hx0,hu0,c5,c6,c7,-⟩:=ON.out.cell rfl k hlt
   rw [stM_at _ _ _ _ hlt] at hx0
   obtain ⟨hu1,hu2⟩:=hu0
   simp only [List.cons.injEq,and_true] at hu1
   subst hu1
   have hx1:=Option.some.inj hx0
   have FS:=zH (stM_set (fun i=>wrap32 (l.getD i 0+bl.getD (i % nb) 0)) (fun i=>l.getD i 0) N k)
   obtain ⟨y,hy⟩:∃ x,bl.getD kb 0=x:=⟨_,rfl⟩
   rw [hy] at cy'
   obtain ⟨res,hres⟩:∃ r,wrap32 (x0+y)=r:=⟨_,rfl⟩
   have e6:IntKind.i32.wrap (x0+y)=res:=by rw [IntKind.wrap_i32,← hres];unfold wrap32;rfl
   have FE:=zH (show wrap32 (l.getD k 0+bl.getD (k % nb) 0)=res by rw [hkb,hy,hx1,hres])
   have RE:=zH (show InK .i32 res by rw [inK_i32,← hres];exact wrap32_in _)
   clear hkb hy hres hx0 hx1 cy hu2
   go_wp2_with fail
   go_still_tail 12,(by kernel_rfl)
   change wpList _ _ _ _ _ wr.drew
   have G2:=zH (grown_tr GR.out (grown_drew wr (some q)))
   have O2:=zH (ON.out.heap (w':=wr.drew) rfl)
   clear c5 c6 c7 cy' hp ON GR
   generalize wr.drew=wy at *
   obtain ⟨x9,u9,-,-,c5,c6,c7,-⟩:=O2.out.cell rfl k hlt
   go_wp2_with fail
   obtain ⟨o3,g3⟩:=O2.out.set1 rfl k (.int .i32 res) res ⟨rfl,RE.out⟩ (fun _ h=>h.elim)
   have fs:=FS.out
   simp only [FE.out] at fs
   rw [fs] at o3
   exact ⟨⟨k+1,by omega,by go_num,grown_tr G2.out g3,o3⟩,by simp [intOf];omega⟩
  ·obtain rfl:k=N:=by omega
   go_wp2_with fail
   ((try simp only [Exit.inBlock,Exit.then]);refine bodyPost_end (results_none rfl _ _ _) rfl ?_)
   have e:=ON.out
   rw [stM_all] at e
   exact ⟨rfl,e,GR.out⟩
end Go.Proofs.YtjkmjpjknmghlaaGreat
namespace Go.Proofs.YtjkmjpjknmghlaaGreat
open Go.RowKit Go.ChangeShapes Go.WideShapes Fx
set_option maxRecDepth 100000
set_option maxHeartbeats 4000000
theorem patchDo_any (A:Option Addr) (n cap:Nat) (l:List Int) (d:Node) (W:Option Addr) (nw cw:Nat) (B:Option Addr) (nb cb:Nat) (u0 u1 u2:Value) (gt gn gr q N m base:Nat) (L:List Int) (h v c many wide:Int) (row:Nat) (at_:Int) (ok:Bool) (w:World)
  (hl:Sl (tInt .i8) w (blo m) A n cap l) (hz:InK .i8 d.za)
  (bt:Blk w gt 27 (tN h v c A n cap)) (bn:Blk w gn 44 (nN d.kind d.a d.b d.k d.s d.p d.out d.za d.zb W nw cw B nb cb d.qm d.qs d.qz d.rm d.rs d.rz d.lo d.hi)) (br:Blk w gr 172 #[.int .i64 many,.int .i64 wide,.slice (some ⟨q,0,none⟩) N N])
  (hown:Own (tInt .i16) w (fun _=>False) base 192 (.slice (some ⟨q,0,none⟩) N N) N L) (hrow:row < N) (hat:ok=true → ∃ i:Nat,at_=i∧i < n) (hN:N≤100000000) (hn:n≤1024) :
  Calls Tryz.prog 149 #[.int .i64 row,.int .i64 at_,.bool ok,.pointer (some ⟨gt,0,none⟩),.pointer (some ⟨gn,0,none⟩),.pointer (some ⟨gr,0,none⟩)] w fun e w'=>e=.returned (.tuple #[])∧Own (tInt .i16) w' (fun _=>False) base 192 (.slice (some ⟨q,0,none⟩) N N) N (if ok=true then L.set row (l.getD at_.toNat 0 - d.za) else L)∧w.grownBy w' (some q):=by
 cases ok with
 | false =>
  go_enter Tryz.func149,Tryz.ntmps149
  go_wp2_with fail
  ((try simp only [Exit.inBlock,Exit.then]);refine bodyPost_end (results_none rfl _ _ _) rfl ?_)
  exact ⟨rfl,hown,grown_self _ _⟩
 | true =>
  obtain ⟨i,rfl,hi⟩:=hat rfl
  rw [if_pos rfl,Int.toNat_natCast]
  obtain ⟨bz,oz,rfl,-,-,cx,ix⟩:=hl.int_at i hi
  obtain ⟨x,hx⟩:∃ x,l.getD i 0=x:=⟨_,rfl⟩
  rw [hx] at cx ix ⊢
  obtain ⟨z,hzz⟩:∃ z,d.za=z:=⟨_,rfl⟩
  have n7:=bn.cell 7
  have t3:=bt.cell 3
  have r2:=br.cell 2
  simp only [gX] at n7 t3 r2
  rw [hzz] at n7 hz ⊢
  rw [inK_i8] at ix hz
  obtain ⟨i1,i2⟩:=ix
  obtain ⟨z1,z2⟩:=hz
  have g6:IntKind.i16.wrap x=x:=by rw [wrap_i16];omega
  have g7:IntKind.i16.wrap z=z:=by rw [wrap_i16];omega
  have g8:IntKind.i16.wrap (x - z)=x - z:=by rw [wrap_i16];omega
  obtain ⟨x0,u0',-,-,c5,c6,c7,-⟩:=hown.cell rfl row hrow
  have ON:=zH hown
  clear hx hzz hown bt bn br hl hat
  go_enter Tryz.func149,Tryz.ntmps149
  go_wp2_with fail
  go_still_tail 13,(by kernel_rfl)
  change wpList _ _ _ _ _ w.drew
  have O2:=zH (ON.out.heap (w':=w.drew) rfl)
  have G2:=zH (grown_drew w (some q))
  clear c5 c6 c7 cx n7 t3 r2 ON
  generalize w.drew=wy at *
  obtain ⟨x9,u9,-,-,c5,c6,c7,-⟩:=O2.out.cell rfl row hrow
  go_wp2_with fail
  ((try simp only [Exit.inBlock,Exit.then]);refine bodyPost_end (results_none rfl _ _ _) rfl ?_)
  obtain ⟨o3,g3⟩:=O2.out.set1 rfl row (.int .i16 (x - z)) (x - z) ⟨rfl,by simp only [InK,IntKind.min,IntKind.max,IntKind.signed,IntKind.bits];simp;omega⟩ (fun _ h=>h.elim)
  exact ⟨rfl,o3,grown_tr G2.out g3⟩
end Go.Proofs.YtjkmjpjknmghlaaGreat
namespace Go.Proofs.YtjkmjpjknmghlaaGreat
open Go.RowKit Go.ChangeShapes Go.WideShapes Fx
set_option maxRecDepth 100000
set_option maxHeartbeats 8000000
def patchF (H V C:Nat) (l:List Int) (za:Int) (K S P Wo:Nat) (r:Nat):Int :=
 px H V C l za ((r / (K*K*C) / Wo*S+r % (K*K*C) / C / K:Nat) - (P:Int)) ((r / (K*K*C) % Wo*S+r % (K*K*C) / C % K:Nat) - (P:Int)) (r % (K*K*C) % C)
theorem below_grown {w w':World} {r:Option Nat} (h:Below w.heap.size w w'):w.grownBy w' r:=⟨h.os,h.tape,h.output,h.size,fun k hk _=>h.block k hk⟩
theorem filling_step {f:Nat → Int} {n k:Nat} (h:k < n) (hf:f k=0):filling 0 f n k=filling 0 f n (k+1):=by
 have e:=filling_set 0 f n k h
 rw [← e,hf]
 unfold filling
 apply List.ext_getElem (by simp)
 intro i h1 h2
 rw [List.getElem_set]
 split
 ·rename_i e;subst e
  rw [List.getElem_append_right (by simp)]
  simp
 ·rfl
theorem each_any (H V C:Nat) (A:Option Addr) (n cap:Nat) (l:List Int) (d:Node) (W:Option Addr) (nw cw:Nat) (B:Option Addr) (nb cb:Nat) (Ho Wo K S P gt gn gr q N m base M WD:Nat) (many wide:Int) (w:World)
  (hl:Sl (tInt .i8) w (blo m) A n cap l) (hm:m≤base) (hn:n=H*V*C) (hn2:n≤1024) (hz:InK .i8 d.za) (hk:d.k=K) (hs:d.s=S) (hp:d.p=P) (k1:1≤K∧K≤5) (s1:S≤4) (p1:P≤4)
  (h1:1≤H∧H≤16) (v1:1≤V∧V≤16) (c1:1≤C∧C≤1024) (he:decide (0 < elems H V C)=true) (ho1:1≤Ho∧Ho≤16) (w1':1≤Wo∧Wo≤16) (hM:Ho*Wo=M) (hWD:K*K*C=WD) (hN:M*WD=N)
  (bt:Blk w gt 27 (tN H V C A n cap)) (bn:Blk w gn 44 (nN d.kind d.a d.b d.k d.s d.p d.out d.za d.zb W nw cw B nb cb d.qm d.qs d.qz d.rm d.rs d.rz d.lo d.hi)) (br:Blk w gr 172 #[.int .i64 many,.int .i64 wide,.slice (some ⟨q,0,none⟩) N N]) (qt:gt ≠ q) (qn:gn ≠ q) (qr:gr ≠ q)
  (hown:Own (tInt .i16) w (fun _=>False) base 192 (.slice (some ⟨q,0,none⟩) N N) N (List.replicate N 0)) :
  Calls Tryz.prog 147 #[.agg #[.int .i64 H,.int .i64 V,.int .i64 C,.int .i64 d.kind,.int .i64 d.a,.int .i64 d.b,.int .i64 d.k,.int .i64 d.s,.int .i64 d.p,.int .i64 d.out,.int .i8 d.za,.int .i8 d.zb,.slice W nw cw,.slice B nb cb,.int .i32 d.qm,.int .i64 d.qs,.int .i8 d.qz,.int .i32 d.rm,.int .i64 d.rs,.int .i8 d.rz,.int .i8 d.lo,.int .i8 d.hi,.int .i64 Ho,.int .i64 Wo,.int .i64 1],.func (.func 148) #[.agg #[.int .i64 H,.int .i64 V,.int .i64 C,.int .i64 d.kind,.int .i64 d.a,.int .i64 d.b,.int .i64 d.k,.int .i64 d.s,.int .i64 d.p,.int .i64 d.out,.int .i8 d.za,.int .i8 d.zb,.slice W nw cw,.slice B nb cb,.int .i32 d.qm,.int .i64 d.qs,.int .i8 d.qz,.int .i32 d.rm,.int .i64 d.rs,.int .i8 d.rz,.int .i8 d.lo,.int .i8 d.hi,.int .i64 Ho,.int .i64 Wo,.int .i64 1]] #[],.func (.func 149) #[] #[.pointer (some ⟨gt,0,none⟩),.pointer (some ⟨gn,0,none⟩),.pointer (some ⟨gr,0,none⟩)]] w
   fun e w'=>e=.returned (.tuple #[])∧Own (tInt .i16) w' (fun _=>False) base 192 (.slice (some ⟨q,0,none⟩) N N) N ((List.range N).map (patchF H V C l d.za K S P Wo))∧w.grownBy w' (some q):=by
 have hMb:M≤256:=by rw [← hM];exact Nat.mul_le_mul ho1.2 w1'.2
 have hWb:WD≤25600:=by rw [← hWD];exact Nat.mul_le_mul (Nat.mul_le_mul k1.2 k1.2) c1.2
 have hNb:N≤256*25600:=by rw [← hN];exact Nat.mul_le_mul hMb hWb
 have WI:=zH (fun w=>wide_any H V C d W nw cw B nb cb Ho Wo 1 K w hk k1.2 c1.2)
 rw [hWD] at WI
 have EL:=zH (fun w=>elems_any (Ho:Int) (1:Int) (Wo:Int) w (by rw [inK_i64];omega) (by rw [inK_i64];omega) (by rw [inK_i64];omega))
 have hel:elems (Ho:Int) (Wo:Int) (1:Int)=(M:Int):=by
  rw [elems_iff,if_pos ⟨by omega,by omega,by omega,by omega,by omega,by omega,by rw [Int.mul_one,← Int.natCast_mul,hM];omega⟩,Int.mul_one,← Int.natCast_mul,hM]
 rw [hel] at EL
 have PL:=zH (fun (i k:Nat) (hi:i≤1024) (hkk:k≤25600) w=>place_any H V C d W nw cw B nb cb Ho Wo 1 K S P i k w hk hs hp k1 s1 p1 h1 v1 c1 he w1' hi hkk)
 have HL:=zH hl
 have HZ:=zH hz
 have BT:=zH bt
 have BN:=zH bn
 have BR:=zH br
 have NE:=zH hn
 have QQ:=zH (And.intro qt (And.intro qn qr))
 have hq:=hown.lt _ rfl
 rw [← filling_zero 0 (patchF H V C l d.za K S P Wo) N] at hown
 obtain ⟨w1,hw_w1,BS,k_w1⟩:=nB w #[.int .i64 H,.int .i64 V,.int .i64 C,.int .i64 d.kind,.int .i64 d.a,.int .i64 d.b,.int .i64 d.k,.int .i64 d.s,.int .i64 d.p,.int .i64 d.out,.int .i8 d.za,.int .i8 d.zb,.slice W nw cw,.slice B nb cb,.int .i32 d.qm,.int .i64 d.qs,.int .i8 d.qz,.int .i32 d.rm,.int .i64 d.rs,.int .i8 d.rz,.int .i8 d.lo,.int .i8 d.hi,.int .i64 Ho,.int .i64 Wo,.int .i64 1] 187
 have GR:=zH (below_grown (r:=some q) k_w1)
 have ON:=zH (hown.below k_w1 (Nat.le_refl _) (fun _ h=>h.elim))
 have QB:=zH (show q < w.heap.size from hq.2)
 clear hl hz bt bn br hn qt qn qr hown hq hel he hk hs hp k_w1
 go_enter Tryz.func147,Tryz.ntmps147
 go_wp2_with (first|(refine lB 187 (.tmp 3) w.heap.size BS.out Tryz.underlying187 ?_)|(go_at_call 146;refine (WI.out _).mono ?_;rintro e w2 ⟨rfl,hb⟩;replace BS:=zH (BS.out.fut hb);replace GR:=zH (grown_tr GR.out (below_grown hb));replace ON:=zH (ON.out.below hb (Nat.le_refl _) (fun _ h=>h.elim));clear hb hw_w1)|(refine wpList_load_blk rfl 24 (.tmp 13) rfl w.heap.size 22 rfl _ #[.int .i64 H,.int .i64 V,.int .i64 C,.int .i64 d.kind,.int .i64 d.a,.int .i64 d.b,.int .i64 d.k,.int .i64 d.s,.int .i64 d.p,.int .i64 d.out,.int .i8 d.za,.int .i8 d.zb,.slice W nw cw,.slice B nb cb,.int .i32 d.qm,.int .i64 d.qs,.int .i8 d.qz,.int .i32 d.rm,.int .i64 d.rs,.int .i8 d.rz,.int .i8 d.lo,.int .i8 d.hi,.int .i64 Ho,.int .i64 Wo,.int .i64 1] (sN Ho Wo 1) _ BS.out Tryz.underlying24 rfl (by kernel_rfl) rfl ?_)|(go_at_call 23;refine (EL.out _).mono ?_;rintro e w3 ⟨rfl,hb⟩;replace BS:=zH (BS.out.fut hb);replace GR:=zH (grown_tr GR.out (below_grown hb));replace ON:=zH (ON.out.below hb (Nat.le_refl _) (fun _ h=>h.elim));clear hb))
 go_loopw [16] (fun ii wr=>∃ i:Nat,i≤M∧ii=.int .i64 i∧w.grownBy wr (some q)∧Blk wr w.heap.size 187 #[.int .i64 H,.int .i64 V,.int .i64 C,.int .i64 d.kind,.int .i64 d.a,.int .i64 d.b,.int .i64 d.k,.int .i64 d.s,.int .i64 d.p,.int .i64 d.out,.int .i8 d.za,.int .i8 d.zb,.slice W nw cw,.slice B nb cb,.int .i32 d.qm,.int .i64 d.qs,.int .i8 d.qz,.int .i32 d.rm,.int .i64 d.rs,.int .i8 d.rz,.int .i8 d.lo,.int .i8 d.hi,.int .i64 Ho,.int .i64 Wo,.int .i64 1]∧Own (tInt .i16) wr (fun _=>False) base 192 (.slice (some ⟨q,0,none⟩) N N) N (filling 0 (patchF H V C l d.za K S P Wo) N (i*WD))) (fun ii _=>M - (intOf ii).toNat)
 case atStart=>exact ⟨0,Nat.zero_le _,rfl,GR.out,BS.out,by rw [Nat.zero_mul];exact ON.out⟩
 case round =>
  obtain ⟨i,hi,rfl,f0,f1,f2⟩:=hrel
  clear GR BS ON
  have GR:=zH f0
  have BS:=zH f1
  have ON:=zH f2
  clear f0 f1 f2
  by_cases hlt:i < M
  ·have p1':(i:Int) < (M:Int):=by omega
   go_wp2_with fail
   go_loopw [20] (fun ii wr=>∃ k:Nat,k≤WD∧ii=.int .i64 k∧w.grownBy wr (some q)∧Blk wr w.heap.size 187 #[.int .i64 H,.int .i64 V,.int .i64 C,.int .i64 d.kind,.int .i64 d.a,.int .i64 d.b,.int .i64 d.k,.int .i64 d.s,.int .i64 d.p,.int .i64 d.out,.int .i8 d.za,.int .i8 d.zb,.slice W nw cw,.slice B nb cb,.int .i32 d.qm,.int .i64 d.qs,.int .i8 d.qz,.int .i32 d.rm,.int .i64 d.rs,.int .i8 d.rz,.int .i8 d.lo,.int .i8 d.hi,.int .i64 Ho,.int .i64 Wo,.int .i64 1]∧Own (tInt .i16) wr (fun _=>False) base 192 (.slice (some ⟨q,0,none⟩) N N) N (filling 0 (patchF H V C l d.za K S P Wo) N (i*WD+k))) (fun ii _=>WD - (intOf ii).toNat)
   case atStart=>exact ⟨0,Nat.zero_le _,rfl,GR.out,BS.out,ON.out⟩
   case round =>
    obtain ⟨k,hk,rfl,f0,f1,f2⟩:=hrel
    clear GR BS ON
    have GR:=zH f0
    have BS:=zH f1
    have ON:=zH f2
    clear f0 f1 f2
    by_cases hlk:k < WD
    ·have p2':(k:Int) < (WD:Int):=by omega
     go_wp2_with fail
     have hrow:i*WD+k < N:=by
      rw [← hN]
      have:(i+1)*WD≤M*WD:=Nat.mul_le_mul_right _ hlt
      rw [Nat.succ_mul] at this
      omega
     have dv:(i*WD+k) / WD=i:=by rw [Nat.mul_comm,Nat.mul_add_div (by omega),Nat.div_eq_of_lt hlk,Nat.add_zero]
     have md:(i*WD+k) % WD=k:=by rw [Nat.mul_comm,Nat.mul_add_mod,Nat.mod_eq_of_lt hlk]
     obtain ⟨r1,hr1⟩:∃ x,i*WD=x:=⟨_,rfl⟩
     have j1:(i:Int)*(WD:Int)=(r1:Int):=by rw [← hr1];simp
     have hr1b:r1≤256*25600:=by rw [← hr1];exact Nat.mul_le_mul (by omega) hWb
     have e1:IntKind.i64.wrap ((i:Int)*(WD:Int))=(r1:Int):=by rw [j1];exact IntWalk.i64_in _ (by omega)
     obtain ⟨row,hrw⟩:∃ x,i*WD+k=x:=⟨_,rfl⟩
     have e2:IntKind.i64.wrap ((r1:Int)+(k:Int))=(row:Int):=(IntWalk.i64_in _ (by omega)).trans (by omega)
     rw [hrw] at hrow dv md ON
     have HRW:=zH (show i*WD+(k+1)=row+1 by omega)
     obtain ⟨yy,hyy⟩:∃ x:Int,((i / Wo*S+k / C / K:Nat):Int) - (P:Int)=x:=⟨_,rfl⟩
     obtain ⟨xx,hxx⟩:∃ x:Int,((i % Wo*S+k / C % K:Nat):Int) - (P:Int)=x:=⟨_,rfl⟩
     have FV:=zH (show patchF H V C l d.za K S P Wo row=px H V C l d.za yy xx (k % C) by unfold patchF;rw [hWD,dv,md,hyy,hxx])
     have PC:=PL.out i k (by omega) (by omega) wr
     rw [hyy,hxx] at PC
     have FS:=zH (filling_set 0 (patchF H V C l d.za K S P Wo) N row hrow)
     have FN:=zH (fun hf=>filling_step (f:=patchF H V C l d.za K S P Wo) (n:=N) (k:=row) hrow hf)
     clear dv md hyy hxx hrw hr1 j1
     by_cases hin:inside H V yy xx
     ·have hin2:=hin
      unfold inside at hin2
      have HIX:=zH (show placeV V C yy xx (k % C) < n by rw [NE.out];exact idx_lt yy.toNat xx.toNat (k % C) H V C (by omega) (by omega) (Nat.mod_lt _ (by omega)))
      have PV:=zH (show patchF H V C l d.za K S P Wo row=l.getD (placeV V C yy xx (k % C)) 0 - d.za by rw [FV.out];unfold px;rw [if_pos hin2];rfl)
      clear hin2
      rw [if_pos hin,decide_eq_true hin] at PC
      refine PC.mono ?_
      rintro e w2 ⟨rfl,hb⟩
      have G2:=zH (grown_tr GR.out (below_grown hb))
      have B2:=zH (BS.out.fut hb)
      have O2:=zH (ON.out.below hb (Nat.le_refl _) (fun _ h=>h.elim))
      have lq:=(ON.out.lt _ rfl).1
      clear hb
      go_wp2_with fail
      refine (patchDo_any A n cap l d W nw cw B nb cb undef undef undef gt gn gr q N m base _ H V C many wide row _ true w2 (HL.out.away G2.out (by omega) (by have:=QB.out;omega)) HZ.out (BT.out.rowR G2.out (fun e=>QQ.out.1 (Option.some.inj e))) (BN.out.rowR G2.out (fun e=>QQ.out.2.1 (Option.some.inj e))) (BR.out.rowR G2.out (fun e=>QQ.out.2.2 (Option.some.inj e))) O2.out hrow (fun _=>⟨_,rfl,HIX.out⟩) (by omega) hn2).mono ?_
      rintro e w3 ⟨rfl,own3,g3⟩
      have B3:=zH (B2.out.rowR g3 (fun e=>by have:=Option.some.inj e;have:=QB.out;omega))
      have G3:=zH (grown_tr G2.out g3)
      rw [if_pos rfl,Int.toNat_natCast,← PV.out,FS.out] at own3
      have O3:=zH own3
      clear own3 g3
      go_wp2_with fail
      exact ⟨⟨k+1,by omega,by go_num,G3.out,B3.out,by rw [HRW.out];exact O3.out⟩,by simp [intOf];omega⟩
     ·have PV:=zH (show patchF H V C l d.za K S P Wo row=0 by rw [FV.out];unfold px;exact if_neg hin)
      rw [if_neg hin,decide_eq_false hin] at PC
      refine PC.mono ?_
      rintro e w2 ⟨rfl,hb⟩
      have G2:=zH (grown_tr GR.out (below_grown hb))
      have B2:=zH (BS.out.fut hb)
      have O2:=zH (ON.out.below hb (Nat.le_refl _) (fun _ h=>h.elim))
      have lq:=(ON.out.lt _ rfl).1
      clear hb
      go_wp2_with fail
      refine (patchDo_any A n cap l d W nw cw B nb cb undef undef undef gt gn gr q N m base _ H V C many wide row _ false w2 (HL.out.away G2.out (by omega) (by have:=QB.out;omega)) HZ.out (BT.out.rowR G2.out (fun e=>QQ.out.1 (Option.some.inj e))) (BN.out.rowR G2.out (fun e=>QQ.out.2.1 (Option.some.inj e))) (BR.out.rowR G2.out (fun e=>QQ.out.2.2 (Option.some.inj e))) O2.out hrow (fun h=>by cases h) (by omega) hn2).mono ?_
      rintro e w3 ⟨rfl,own3,g3⟩
      have B3:=zH (B2.out.rowR g3 (fun e=>by have:=Option.some.inj e;have:=QB.out;omega))
      have G3:=zH (grown_tr G2.out g3)
      rw [if_neg (by decide),FN.out PV.out] at own3
      have O3:=zH own3
      clear own3 g3
      go_wp2_with fail
      exact ⟨⟨k+1,by omega,by go_num,G3.out,B3.out,by rw [HRW.out];exact O3.out⟩,by simp [intOf];omega⟩
    ·obtain rfl:k=WD:=by omega
     go_wp2_with fail
     exact ⟨⟨i+1,by omega,by go_num,GR.out,BS.out,by rw [Nat.succ_mul];exact ON.out⟩,by simp [intOf];omega⟩
  ·obtain rfl:i=M:=by omega
   go_wp2_with fail
   ((try simp only [Exit.inBlock,Exit.then]);refine bodyPost_end (results_none rfl _ _ _) rfl ?_)
   have e:=ON.out
   rw [hN,filling_all] at e
   exact ⟨rfl,e,GR.out⟩
end Go.Proofs.YtjkmjpjknmghlaaGreat
namespace Go.Proofs.YtjkmjpjknmghlaaGreat
open Go.RowKit Go.ChangeShapes Go.WideShapes Fx
set_option maxRecDepth 100000
set_option maxHeartbeats 4000000
theorem gemMay_any (A:Option Addr) (n cap:Nat) (l:List Int) (w:World) (hl:Sl (tInt .i64) w (blo w.heap.size) A n cap l) (hn:n≤1024) (hb:∀ i,i < n → 1≤l.getD i 0∧l.getD i 0≤16384) :
  Calls Tryz.prog 150 #[.slice A n cap] w fun e w'=>e=.returned (.bool true)∧w=w':=by
 have H:=zH hl
 have HB:=zH hb
 clear hl hb
 go_enter Tryz.func150,Tryz.ntmps150
 go_wp2_with fail
 go_loopw [7] (fun ii wr=>∃ k:Nat,k≤n∧ii=.int .i64 k∧w=wr) (fun ii _=>n - (intOf ii).toNat)
 case atStart=>exact ⟨0,Nat.zero_le _,rfl,rfl⟩
 case round =>
  obtain ⟨k,hk,rfl,rfl⟩:=hrel
  by_cases hlt:k < n
  ·have p1:(k:Int) < (n:Int):=by omega
   obtain ⟨b,o,rfl,-,-,cx,ix⟩:=H.out.int_at k hlt
   obtain ⟨x1,x2⟩:=HB.out k hlt
   obtain ⟨x,hx⟩:∃ x,l.getD k 0=x:=⟨_,rfl⟩
   rw [hx] at cx ix x1 x2
   have t1:¬ x < 1:=by omega
   have t2:¬ 16384 < x:=by omega
   clear hx
   go_wp2_with fail
   exact ⟨⟨k+1,by omega,by go_num,by trivial⟩,by simp [intOf];omega⟩
  ·obtain rfl:k=n:=by omega
   go_wp2_with fail
   go_ret
   exact ⟨rfl,by trivial⟩
end Go.Proofs.YtjkmjpjknmghlaaGreat
namespace Go.Proofs.YtjkmjpjknmghlaaGreat
open Go.RowKit Go.ChangeShapes Go.WideShapes Fx
set_option maxRecDepth 100000
set_option maxHeartbeats 4000000
def winL (H V C:Nat) (l:List Int) (K S P:Nat) (c y x:Nat):Nat → List Int
 | 0=>[]
 | q+1=>if inside H V ((y*S+q / K:Nat) - (P:Int)) ((x*S+q % K:Nat) - (P:Int)) then winL H V C l K S P c y x q ++ [l.getD (placeV V C ((y*S+q / K:Nat) - (P:Int)) ((x*S+q % K:Nat) - (P:Int)) c) 0] else winL H V C l K S P c y x q
theorem winL_len (H V C:Nat) (l:List Int) (K S P:Nat) (c y x:Nat):∀ q,(winL H V C l K S P c y x q).length≤q
 | 0=>Nat.le_refl _
 | q+1=>by
  have ih:=winL_len H V C l K S P c y x q
  unfold winL
  split
  ·simp;omega
  ·omega
theorem rwindow_any (H V C:Nat) (A:Option Addr) (n cap:Nat) (l:List Int) (d:Node) (W:Option Addr) (nw cw:Nat) (B:Option Addr) (nb cb:Nat) (K S P y x c:Nat) (w:World)
  (hl:Sl (tInt .i8) w (blo w.heap.size) A n cap l) (hn:n=H*V*C) (hn2:n≤1024) (h1:1≤H∧H≤16) (v1:1≤V∧V≤16) (c1:1≤C∧C≤1024)
  (hk:d.k=K) (hs:d.s=S) (hp:d.p=P) (k1:1≤K∧K≤5) (s1:1≤S∧S≤4) (p1:P≤4) (hy:y≤1000) (hx:x≤1000) (hc:c < C) :
  Calls Tryz.prog 58 #[.agg (tN H V C A n cap),.agg (nN d.kind d.a d.b d.k d.s d.p d.out d.za d.zb W nw cw B nb cb d.qm d.qs d.qz d.rm d.rs d.rz d.lo d.hi),.int .i64 y,.int .i64 x,.int .i64 c] w (RetSl (tInt .i8) w (winL H V C l K S P c y x (K*K))):=by
 have FR:=zH (Far.refl w)
 obtain ⟨w1,hw_w1,BT,k_w1⟩:=nB w (tN H V C A n cap) 27
 replace FR:=zH (FR.out.fut k_w1)
 clear k_w1
 obtain ⟨w2,hw_w2,BN,k_w2⟩:=nB w1 (nN d.kind d.a d.b d.k d.s d.p d.out d.za d.zb W nw cw B nb cb d.qm d.qs d.qz d.rm d.rs d.rz d.lo d.hi) 44
 replace FR:=zH (FR.out.fut k_w2)
 replace BT:=zH (BT.out.fut k_w2)
 clear k_w2
 have l1:w.heap.size < w1.heap.size:=by rw [← hw_w1];simp
 have l2:w1.heap.size < w2.heap.size:=by rw [← hw_w2];simp
 have HL:=zH hl
 have HN:=zH hn
 have HK:=zH hk
 have HS:=zH hs
 have HP:=zH hp
 obtain ⟨KK,hKK⟩:∃ m,K*K=m:=⟨_,rfl⟩
 have KK1:KK≤25:=by rw [← hKK];exact Nat.mul_le_mul k1.2 k1.2
 rw [hKK]
 obtain ⟨k1a,k1b⟩:=k1
 have HKK:=zH hKK
 have L12:w2.heap.size=w1.heap.size+1:=by rw [← hw_w2];simp
 have LW2:=zH (fun (wx:World) (h:Blk wx w1.heap.size 44 (nN d.kind d.a d.b d.k d.s d.p d.out d.za d.zb W nw cw B nb cb d.qm d.qs d.qz d.rm d.rs d.rz d.lo d.hi))=>show w2.heap.size≤wx.heap.size by have:=h.lt;omega)
 have LN:=zH (fun q=>winL_len H V C l K S P c y x q)
 clear hl hn hk hs hp hKK
 go_enter Tryz.func58,Tryz.ntmps58
 go_wp2_with fail
 clear hw_w1 hw_w2
 have ON:=zH (show Own (tInt .i8) w2 (fun _=>False) w2.heap.size 39 (.slice none 0 0) (winL H V C l K S P c y x (0*K)).length (winL H V C l K S P c y x (0*K)) by rw [Nat.zero_mul];exact Own.nil _ _ _ _ _)
 go_loopw [11,12] (fun u ii wr=>∃ i:Nat,i≤K∧ii=.int .i64 i∧Far w wr∧Blk wr w.heap.size 27 (tN H V C A n cap)∧Blk wr w1.heap.size 44 (nN d.kind d.a d.b d.k d.s d.p d.out d.za d.zb W nw cw B nb cb d.qm d.qs d.qz d.rm d.rs d.rz d.lo d.hi)∧Own (tInt .i8) wr (fun _=>False) w2.heap.size 39 u (winL H V C l K S P c y x (i*K)).length (winL H V C l K S P c y x (i*K))) (fun _ ii _=>K - (intOf ii).toNat)
 case atStart=>exact ⟨0,Nat.zero_le _,rfl,FR.out,BT.out,BN.out,ON.out⟩
 case round =>
  obtain ⟨i,hi,rfl,hf,hbt,hbn,hon⟩:=hrel
  clear FR BT BN ON
  have FR:=zH hf
  have BT:=zH hbt
  have BN:=zH hbn
  have ON:=zH hon
  clear hf hbt hbn hon
  have n3:=BN.out.cell 3
  simp only [gX] at n3
  rw [HK.out] at n3
  by_cases hlt:i < K
  ·have p1':(i:Int) < (K:Int):=by omega
   go_wp2_with fail
   clear n3
   go_loopw [11,13] (fun u ii wr=>∃ j:Nat,j≤K∧ii=.int .i64 j∧Far w wr∧Blk wr w.heap.size 27 (tN H V C A n cap)∧Blk wr w1.heap.size 44 (nN d.kind d.a d.b d.k d.s d.p d.out d.za d.zb W nw cw B nb cb d.qm d.qs d.qz d.rm d.rs d.rz d.lo d.hi)∧Own (tInt .i8) wr (fun _=>False) w2.heap.size 39 u (winL H V C l K S P c y x (i*K+j)).length (winL H V C l K S P c y x (i*K+j))) (fun _ ii _=>K - (intOf ii).toNat)
   case atStart=>exact ⟨0,Nat.zero_le _,rfl,FR.out,BT.out,BN.out,by rw [Nat.add_zero];exact ON.out⟩
   case round =>
    obtain ⟨j,hj,rfl,hf,hbt,hbn,hon⟩:=hrel
    clear FR BT BN ON
    have FR:=zH hf
    have BT:=zH hbt
    have BN:=zH hbn
    have ON:=zH hon
    clear hf hbt hbn hon
    have n3:=BN.out.cell 3
    simp only [gX] at n3
    rw [HK.out] at n3
    by_cases hlj:j < K
    ·have p2':(j:Int) < (K:Int):=by omega
     have hkk:i*K+j < KK:=by
      rw [← HKK.out]
      have:(i+1)*K≤K*K:=Nat.mul_le_mul_right _ hlt
      rw [Nat.succ_mul] at this
      omega
     have hki:(i*K+j) / K=i:=by rw [Nat.mul_comm,Nat.mul_add_div (by omega),Nat.div_eq_of_lt hlj,Nat.add_zero]
     have hkj:(i*K+j) % K=j:=by rw [Nat.mul_comm,Nat.mul_add_mod,Nat.mod_eq_of_lt hlj]
     obtain ⟨ys,hys⟩:∃ m,y*S=m:=⟨_,rfl⟩
     have ysi:(y:Int)*(S:Int)=(ys:Int):=by rw [← hys];simp
     have ysb:ys≤4000:=by rw [← hys];exact Nat.mul_le_mul hy s1.2
     obtain ⟨xs,hxs⟩:∃ m,x*S=m:=⟨_,rfl⟩
     have xsi:(x:Int)*(S:Int)=(xs:Int):=by rw [← hxs];simp
     have xsb:xs≤4000:=by rw [← hxs];exact Nat.mul_le_mul hx s1.2
     obtain ⟨yy,hyy⟩:∃ m:Int,((y*S+i:Nat):Int) - P=m:=⟨_,rfl⟩
     obtain ⟨xx,hxx⟩:∃ m:Int,((x*S+j:Nat):Int) - P=m:=⟨_,rfl⟩
     have hyy2:(ys:Int)+(i:Int) - (P:Int)=yy:=by rw [← hyy,hys];simp
     have hxx2:(xs:Int)+(j:Int) - (P:Int)=xx:=by rw [← hxx,hxs];simp
     have byy:-10≤yy∧yy≤5000:=by omega
     have bxx:-10≤xx∧xx≤5000:=by omega
     have g1:IntKind.i64.wrap ((y:Int)*(S:Int))=(ys:Int):=by rw [ysi];exact IntWalk.i64_in _ (by omega)
     have g2:IntKind.i64.wrap ((x:Int)*(S:Int))=(xs:Int):=by rw [xsi];exact IntWalk.i64_in _ (by omega)
     have g3:IntKind.i64.wrap ((ys:Int)+(i:Int))=(ys:Int)+(i:Int):=IntWalk.i64_in _ (by omega)
     have g4:IntKind.i64.wrap ((xs:Int)+(j:Int))=(xs:Int)+(j:Int):=IntWalk.i64_in _ (by omega)
     have g5:IntKind.i64.wrap ((ys:Int)+(i:Int) - (P:Int))=yy:=by rw [hyy2];exact IntWalk.i64_in _ (by omega)
     have g6:IntKind.i64.wrap ((xs:Int)+(j:Int) - (P:Int))=xx:=by rw [hxx2];exact IntWalk.i64_in _ (by omega)
     have hq:winL H V C l K S P c y x (i*K+j+1)=if inside H V yy xx then winL H V C l K S P c y x (i*K+j) ++ [l.getD (placeV V C yy xx c) 0] else winL H V C l K S P c y x (i*K+j):=by
      show (if inside H V ((y*S+(i*K+j) / K:Nat) - (P:Int)) ((x*S+(i*K+j) % K:Nat) - (P:Int)) then _ else _)=_
      rw [hki,hkj,hyy,hxx]
     have n4:=BN.out.cell 4
     have n5:=BN.out.cell 5
     have t0:=BT.out.cell 0
     have t1:=BT.out.cell 1
     simp only [gX] at n4 n5 t0 t1
     rw [HS.out] at n4
     rw [HP.out] at n5
     clear hyy hxx hys hxs ysi xsi hyy2 hxx2 hki hkj
     go_wp2_with fail
     go_quiet (fail)
     clear g1 g2 g3 g4 g5 g6
     by_cases a1:0≤yy
     ·by_cases a2:yy < (H:Int)
      ·by_cases a3:0≤xx
       ·by_cases a4:xx < (V:Int)
        ·have hq3:=hq.trans (if_pos (show inside H V yy xx from ⟨a1,a2,a3,a4⟩))
         obtain ⟨yn,hyn⟩:∃ m:Nat,yy=m:=⟨yy.toNat,by omega⟩
         subst hyn
         obtain ⟨xn,hxn⟩:∃ m:Nat,xx=m:=⟨xx.toNat,by omega⟩
         subst hxn
         unfold placeV at hq3
         simp only [Int.toNat_natCast] at hq3
         have ia:=HL.out.allK ((yn*V+xn)*C+c)
         have GE:=zH (fun wq (h:Sl (tInt .i8) wq (blo wq.heap.size) A n cap l)=>rget_any H V C A n cap l yn xn c wq h HN.out hn2 c1.2 (by omega) (by omega) hc)
         obtain ⟨v,hv⟩:∃ v,l.getD ((yn*V+xn)*C+c) 0=v:=⟨_,rfl⟩
         rw [hv] at hq3 ia GE
         have IA:=zH ia
         have HQ:=zH hq3
         have LE:=LN.out (i*K+j)
         clear hq hq3 hv ia
         obtain ⟨wq,hwq⟩:∃ m,wr.drewN nq=m:=⟨_,rfl⟩
         have kd:Below wr.heap.size wr wq:=by rw [← hwq];exact below_drewN (Below.refl _ _) _
         have ON2:=ON.out.below kd (Nat.le_refl _) (fun _ h=>h.elim)
         have F2:=FR.out.fut kd
         have T2:=BT.out.fut kd
         have N2:=BN.out.fut kd
         have q0:=cell_later kd t0
         have q1:=cell_later kd t1
         rw [hwq]
         clear n3 n4 n5 t0 t1 kd hwq
         replace ON:=zH ON2
         replace FR:=zH F2
         replace BT:=zH T2
         replace BN:=zH N2
         clear ON2 F2 T2 N2
         go_wp2_with (refine lB 27 (.tmp 5) w.heap.size BT.out Tryz.underlying27 ?_)
         refine (GE.out _ ((Old.now HL.out).fut FR.out.out).all).mono ?_
         rintro e w5 ⟨rfl,hb⟩
         have O5:=zH (ON.out.below hb (Nat.le_refl _) (fun _ h=>h.elim))
         have lw5:w2.heap.size≤w5.heap.size:=by have:=hb.size;have:=BN.out.lt;have:=FR.out.size;exact Nat.le_trans (LW2.out _ BN.out) hb.size
         replace FR:=zH (FR.out.fut hb)
         replace BT:=zH (BT.out.fut hb)
         replace BN:=zH (BN.out.fut hb)
         clear hb q0 q1
         go_wp2_with (at_builtin;refine wpList_push (W:=w5) (cs:=#[.int .i8 v]) (E:=39) (t:=tInt .i8) (S:=fun _=>False) (base:=w2.heap.size) rfl (.tmp 66) (.tmp 72) rfl ei_b8 rfl O5.out 1 rfl v ⟨rfl,IA.out⟩ (by unfold maxLen;omega) (by omega) lw5 (fun _ h=>h.elim) ?_;intro v' wz ownz gz atz)
         have oz:=ownz
         have e9:(winL H V C l K S P c y x (i*K+j) ++ [v]).length=(winL H V C l K S P c y x (i*K+j)).length+1:=by simp
         refine ⟨⟨j+1,by omega,by go_num,⟨FR.out.out.grown gz FR.out.size (fun k h=>Nat.le_trans (by omega) (O5.out.lt k h).1)⟩,BT.out.rowR gz (fun e=>by have:=(O5.out.lt _ e.symm).1;omega),BN.out.rowR gz (fun e=>by have:=(O5.out.lt _ e.symm).1;omega),?_⟩,by simp [intOf];omega⟩
         rw [show i*K+(j+1)=i*K+j+1 from rfl,HQ.out,e9]
         exact ownz
        ·have a4':(V:Int)≤xx:=by omega
         have hq3:=hq.trans (if_neg (fun h:inside H V yy xx=>a4 h.2.2.2))
         have HQ:=zH hq3
         clear hq hq3
         go_wp2_with fail
         exact ⟨⟨j+1,by omega,by go_num,FR.out.drewN _,⟨BT.out.heap⟩,⟨BN.out.heap⟩,by rw [show i*K+(j+1)=i*K+j+1 from rfl,HQ.out];exact ON.out.heap rfl⟩,by simp [intOf];omega⟩
       ·have a3':xx < 0:=by omega
        have hq3:=hq.trans (if_neg (fun h:inside H V yy xx=>a3 h.2.2.1))
        have HQ:=zH hq3
        clear hq hq3
        go_wp2_with fail
        exact ⟨⟨j+1,by omega,by go_num,FR.out.drewN _,⟨BT.out.heap⟩,⟨BN.out.heap⟩,by rw [show i*K+(j+1)=i*K+j+1 from rfl,HQ.out];exact ON.out.heap rfl⟩,by simp [intOf];omega⟩
      ·have a2':(H:Int)≤yy:=by omega
       have hq3:=hq.trans (if_neg (fun h:inside H V yy xx=>a2 h.2.1))
       have HQ:=zH hq3
       clear hq hq3
       go_wp2_with fail
       exact ⟨⟨j+1,by omega,by go_num,FR.out.drewN _,⟨BT.out.heap⟩,⟨BN.out.heap⟩,by rw [show i*K+(j+1)=i*K+j+1 from rfl,HQ.out];exact ON.out.heap rfl⟩,by simp [intOf];omega⟩
     ·have a1':yy < 0:=by omega
      have hq3:=hq.trans (if_neg (fun h:inside H V yy xx=>a1 h.1))
      have HQ:=zH hq3
      clear hq hq3
      go_wp2_with fail
      exact ⟨⟨j+1,by omega,by go_num,FR.out.drewN _,⟨BT.out.heap⟩,⟨BN.out.heap⟩,by rw [show i*K+(j+1)=i*K+j+1 from rfl,HQ.out];exact ON.out.heap rfl⟩,by simp [intOf];omega⟩
    ·obtain rfl:j=K:=by omega
     go_wp2_with fail
     exact ⟨⟨i+1,by omega,by go_num,FR.out,BT.out,BN.out,by rw [Nat.succ_mul];exact ON.out⟩,by simp [intOf];omega⟩
  ·obtain rfl:i=K:=by omega
   go_wp2_with fail
   go_ret
   have e:=HKK.out
   subst e
   obtain ⟨A2,c2,rfl,sl⟩:=ON.out.sl (S':=bin w.heap.size _) (by decide) (fun b h1 h2=>⟨by omega,h2⟩) (fun b h=>h.elim)
   exact ⟨_,_,_,rfl,sl,FR.out.out⟩
end Go.Proofs.YtjkmjpjknmghlaaGreat
namespace Go.Proofs.YtjkmjpjknmghlaaGreat
open Go.RowKit Go.ChangeShapes Go.WideShapes Fx
set_option maxRecDepth 100000
set_option maxHeartbeats 4000000
abbrev I8:={ x:Int // InK .i8 x }
def e8 (x:I8):Array Value:=#[Value.int .i8 x.1]
def winX (H V C:Nat) (l:List Int) (hl:∀ i,InK .i8 (l.getD i 0)) (K S P:Nat) (c y x:Nat):Nat → List I8
 | 0=>[]
 | q+1=>if inside H V ((y*S+q / K:Nat) - (P:Int)) ((x*S+q % K:Nat) - (P:Int)) then winX H V C l hl K S P c y x q ++ [⟨l.getD (placeV V C ((y*S+q / K:Nat) - (P:Int)) ((x*S+q % K:Nat) - (P:Int)) c) 0,hl _⟩] else winX H V C l hl K S P c y x q
theorem winX_map (H V C:Nat) (l:List Int) (hl:∀ i,InK .i8 (l.getD i 0)) (K S P:Nat) (c y x:Nat):∀ q,(winX H V C l hl K S P c y x q).map (fun v=>v.1)=winL H V C l K S P c y x q
 | 0=>rfl
 | q+1=>by
  have ih:=winX_map H V C l hl K S P c y x q
  unfold winX winL
  split
  ·rw [List.map_append,ih];rfl
  ·exact ih
theorem winX_len (H V C:Nat) (l:List Int) (hl:∀ i,InK .i8 (l.getD i 0)) (K S P:Nat) (c y x q:Nat):(winX H V C l hl K S P c y x q).length≤q:=by
 rw [← List.length_map (f:=fun v:I8=>v.1),winX_map]
 exact winL_len H V C l K S P c y x q
theorem below_none {w w':World} (hb:Below w.heap.size w w'):w.grownBy w' none:=⟨hb.os,hb.tape,hb.output,hb.size,fun k hk _=>hb.block k hk⟩
theorem Blk.under {w w':World} {n₀ g:Nat} {e:TypeId} {cs:Array Value} (h:Blk w g e cs) (hb:Below n₀ w w') (hg:g < n₀):Blk w' g e cs:=⟨(hb.block g hg).trans h.heap⟩
theorem win1_stops (H V C:Nat) (A:Option Addr) (n cap:Nat) (l:List Int) (d:Node) (W:Option Addr) (nw cw:Nat) (B:Option Addr) (nb cb:Nat) (K S P y x c:Nat) (bN bT bH bW bC n₀ m:Nat) (w:World)
  (hl:Sl (tInt .i8) w (blo n₀) A n cap l) (hn:n=H*V*C) (hn2:n≤1024) (h1:1≤H∧H≤16) (v1:1≤V∧V≤16) (c1:1≤C∧C≤1024) (he:decide (0 < elems H V C)=true)
  (hk:d.k=K) (hs:d.s=S) (hp:d.p=P) (k1:1≤K∧K≤5) (s1:1≤S∧S≤4) (p1:P≤4) (hy:y≤1000) (hx:x≤1000) (hc:c < C)
  (BN:Blk w bN 44 (nN d.kind d.a d.b d.k d.s d.p d.out d.za d.zb W nw cw B nb cb d.qm d.qs d.qz d.rm d.rs d.rz d.lo d.hi)) (BT:Blk w bT 27 (tN H V C A n cap))
  (BH:Blk w bH 3 #[.int .i64 y]) (BW:Blk w bW 3 #[.int .i64 x]) (BC:Blk w bC 3 #[.int .i64 c]) (hb:bN < n₀∧bT < n₀∧bH < n₀∧bW < n₀∧bC < n₀) (hn₀:n₀≤w.heap.size) (hm:1≤m) :
  SeqStopsK Fence.wide m Tryz.prog 128 #[.pointer (some ⟨bN,0,none⟩),.pointer (some ⟨bT,0,none⟩),.pointer (some ⟨bH,0,none⟩),.pointer (some ⟨bW,0,none⟩),.pointer (some ⟨bC,0,none⟩)] e8 (Below n₀) (fun ys=>ys=winX H V C l hl.allK K S P c y x (K*K)) (fun _=>True) (K*K) w:=by
 intro lo J Jx W0 hW hJ hJx hY h0
 have h8:∀ i,InK .i8 (l.getD i 0):=hl.allK
 obtain ⟨XS,hXS⟩:∃ f,winX H V C l hl.allK K S P c y x=f:=⟨_,rfl⟩
 have XL:∀ q,(XS q).length≤q:=fun q=>by rw [← hXS];exact winX_len _ _ _ _ _ _ _ _ _ _ _ _
 have XZ:XS 0=[]:=by rw [← hXS];rfl
 have XS1:∀ q,XS (q+1)=if inside H V ((y*S+q / K:Nat) - (P:Int)) ((x*S+q % K:Nat) - (P:Int)) then XS q ++ [⟨l.getD (placeV V C ((y*S+q / K:Nat) - (P:Int)) ((x*S+q % K:Nat) - (P:Int)) c) 0,h8 _⟩] else XS q:=fun q=>by rw [← hXS];rfl
 rw [hXS]
 have hWb:Below n₀ w W0:=hW.mono hn₀
 have HL:=zH (hl.below hWb (fun b h=>h))
 have GB:=zH hb
 have GB2:=zH (show n₀≤W0.heap.size from Nat.le_trans hn₀ hW.size)
 have BN:=zH (BN.under hWb hb.1)
 have BT:=zH (BT.under hWb hb.2.1)
 have BH:=zH (BH.under hWb hb.2.2.1)
 have BW:=zH (BW.under hWb hb.2.2.2.1)
 have BC:=zH (BC.under hWb hb.2.2.2.2)
 have IX:=zH (fun (yy xx:Int) (w:World)=>shapeIndex_any H V C yy xx c w h1 v1 c1 he hc)
 have HN:=zH hn
 have HK:=zH hk
 have HS:=zH hs
 have HP:=zH hp
 have XS1:=zH XS1
 have XL:=zH XL
 have HJ:=zH (And.intro hJ hJx)
 have HY:=zH hY
 have n3:=BN.out.cell 3
 simp only [gX] at n3
 rw [hk] at n3
 obtain ⟨KK,hKK⟩:∃ m,K*K=m:=⟨_,rfl⟩
 have hKi:(K:Int)*(K:Int)=(KK:Int):=by rw [← hKK];simp
 have KK1:KK≤25:=by rw [← hKK];exact Nat.mul_le_mul k1.2 k1.2
 rw [hKK] at HY ⊢
 have gKK:IntKind.i64.wrap ((K:Int)*(K:Int))=(KK:Int):=by rw [hKi];exact IntWalk.i64_in _ (by omega)
 obtain ⟨k1a,k1b⟩:=k1
 clear hl hn hk hs hp he hKK hXS hW hWb hJ hJx hY hb hn₀ hKi
 rw [callsIn_wide]
 simp only [List.append_toArray,List.cons_append,List.nil_append]
 go_enter Tryz.func128,Tryz.ntmps128
 go_wp2_with fail
 go_loopw [15] (fun ii wr=>∃ q:Nat,q≤KK∧ii=.int .i64 q∧J (XS q) wr∧Below n₀ W0 wr∧W0.heap.size≤wr.heap.size) (fun ii _=>KK - (intOf ii).toNat)
 case atStart=>exact ⟨0,Nat.zero_le _,rfl,by rw [XZ];exact h0,Below.refl _ _,Nat.le_refl _⟩
 case round =>
  obtain ⟨q,hq,rfl,hj,hbw,hsz⟩:=hrel
  have BT:=zH (BT.out.under hbw GB.out.2.1)
  have BN:=zH (BN.out.under hbw GB.out.1)
  have BH:=zH (BH.out.under hbw GB.out.2.2.1)
  have BW:=zH (BW.out.under hbw GB.out.2.2.2.1)
  have BC:=zH (BC.out.under hbw GB.out.2.2.2.2)
  have HL:=zH (HL.out.below hbw (fun b h=>h))
  have HJS:=zH hj
  have HB:=zH (And.intro hbw hsz)
  clear hj hbw hsz
  by_cases hlt:q < KK
  ·have p1':(q:Int) < (KK:Int):=by omega
   go_wp2_with fail
   obtain ⟨ki,hki⟩:∃ m,q / K=m:=⟨_,rfl⟩
   obtain ⟨kj,hkj⟩:∃ m,q % K=m:=⟨_,rfl⟩
   have bki:ki≤25:=by rw [← hki];exact Nat.le_trans (Nat.div_le_self _ _) (by omega)
   have bkj:kj≤5:=by rw [← hkj];exact Nat.le_trans (Nat.le_of_lt (Nat.mod_lt _ (by omega))) k1b
   have hK0:(K:Int) ≠ 0:=by omega
   have d1:(q:Int).tdiv (K:Int)=(ki:Int):=by rw [← hki,Int.tdiv_eq_ediv_of_nonneg (by omega)];simp
   have d2:(q:Int).tmod (K:Int)=(kj:Int):=by rw [← hkj,Int.tmod_eq_emod_of_nonneg (by omega)];simp
   obtain ⟨ys,hys⟩:∃ m,y*S=m:=⟨_,rfl⟩
   have ysi:(y:Int)*(S:Int)=(ys:Int):=by rw [← hys];simp
   have ysb:ys≤4000:=by rw [← hys];exact Nat.mul_le_mul hy s1.2
   obtain ⟨xs,hxs⟩:∃ m,x*S=m:=⟨_,rfl⟩
   have xsi:(x:Int)*(S:Int)=(xs:Int):=by rw [← hxs];simp
   have xsb:xs≤4000:=by rw [← hxs];exact Nat.mul_le_mul hx s1.2
   obtain ⟨yy,hyy⟩:∃ m:Int,((y*S+q / K:Nat):Int) - P=m:=⟨_,rfl⟩
   obtain ⟨xx,hxx⟩:∃ m:Int,((x*S+q % K:Nat):Int) - P=m:=⟨_,rfl⟩
   have hyy2:(ys:Int)+(ki:Int) - (P:Int)=yy:=by rw [← hyy,hys,hki];simp
   have hxx2:(xs:Int)+(kj:Int) - (P:Int)=xx:=by rw [← hxx,hxs,hkj];simp
   have g1:IntKind.i64.wrap ((y:Int)*(S:Int))=(ys:Int):=by rw [ysi];exact IntWalk.i64_in _ (by omega)
   have g2:IntKind.i64.wrap ((x:Int)*(S:Int))=(xs:Int):=by rw [xsi];exact IntWalk.i64_in _ (by omega)
   have g3:IntKind.i64.wrap ((ys:Int)+(ki:Int))=(ys:Int)+(ki:Int):=IntWalk.i64_in _ (by omega)
   have g4:IntKind.i64.wrap ((xs:Int)+(kj:Int))=(xs:Int)+(kj:Int):=IntWalk.i64_in _ (by omega)
   have g5:IntKind.i64.wrap ((ys:Int)+(ki:Int) - (P:Int))=yy:=by rw [hyy2];exact IntWalk.i64_in _ (by omega)
   have g6:IntKind.i64.wrap ((xs:Int)+(kj:Int) - (P:Int))=xx:=by rw [hxx2];exact IntWalk.i64_in _ (by omega)
   have g7:IntKind.i64.wrap (ki:Int)=(ki:Int):=IntWalk.i64_in _ (by omega)
   have g8:IntKind.i64.wrap (kj:Int)=(kj:Int):=IntWalk.i64_in _ (by omega)
   have t0:∀ q:Ext wr,q.1.cell? ⟨bT,0,none⟩=some (.int .i64 H):=fun q=>(BT.out.ext q).cell 0
   have t1:∀ q:Ext wr,q.1.cell? ⟨bT,1,none⟩=some (.int .i64 V):=fun q=>(BT.out.ext q).cell 1
   have t2:∀ q:Ext wr,q.1.cell? ⟨bT,2,none⟩=some (.int .i64 C):=fun q=>(BT.out.ext q).cell 2
   have n3:∀ q:Ext wr,q.1.cell? ⟨bN,3,none⟩=some (.int .i64 K):=fun q=>by rw [← HK.out];exact (BN.out.ext q).cell 3
   have n4:∀ q:Ext wr,q.1.cell? ⟨bN,4,none⟩=some (.int .i64 S):=fun q=>by rw [← HS.out];exact (BN.out.ext q).cell 4
   have n5:∀ q:Ext wr,q.1.cell? ⟨bN,5,none⟩=some (.int .i64 P):=fun q=>by rw [← HP.out];exact (BN.out.ext q).cell 5
   have u0:∀ q:Ext wr,q.1.cell? ⟨bH,0,none⟩=some (.int .i64 y):=fun q=>(BH.out.ext q).cell 0
   have u1:∀ q:Ext wr,q.1.cell? ⟨bW,0,none⟩=some (.int .i64 x):=fun q=>(BW.out.ext q).cell 0
   have u2:∀ q:Ext wr,q.1.cell? ⟨bC,0,none⟩=some (.int .i64 c):=fun q=>(BC.out.ext q).cell 0
   have RG:=zH (fun q:Ext wr=>calls_ext q (IX.out yy xx q.1))
   have XQ:=XS1.out q
   rw [hyy,hxx] at XQ
   have XLq:=XL.out q
   by_cases hin:inside H V yy xx
   ·have hin2:=hin
    unfold inside at hin2
    have E1:=RG.out
    simp only [if_pos hin,decide_eq_true hin] at E1
    rw [if_pos hin] at XQ
    obtain ⟨ix,hix⟩:∃ m,placeV V C yy xx c=m:=⟨_,rfl⟩
    rw [hix] at E1
    simp only [hix] at XQ
    have hixn:ix < n:=by
     rw [← hix,HN.out]
     exact idx_lt yy.toNat xx.toNat c H V C (by omega) (by omega) hc
    replace E1:=zH E1
    obtain ⟨v8,hv8⟩:∃ v:I8,(⟨l.getD ix 0,h8 ix⟩:I8)=v:=⟨_,rfl⟩
    rw [hv8] at XQ
    have hv9:l.getD ix 0=v8.1:=by rw [← hv8]
    have HV:=zH hv9
    have XQ:=zH XQ
    clear hv8 hv9
    refine wp_region_ext wr (by kernel_rfl) (by kernel_rfl) (Below.refl _ _) ?_
    repeat (go_big_quiet_step ((exact E1.out _)))
    refine wpQuiet_nil ?_
    rintro wz ⟨⟨w3,hB⟩,ewz⟩
    obtain rfl:wz=w3:=by first|exact ewz|exact ewz.symm
    have j3:J (XS q) wz:=HJ.out.1 _ _ _ none HJS.out (below_none hB) (fun r e=>by cases e)
    have b3:Below n₀ W0 wz:=HB.out.1.trans (hB.mono (Nat.le_trans GB2.out HB.out.2))
    have s3:=hB.size
    obtain ⟨b,o,rfl,hbb,-,cx,-⟩:=(HL.out.below (hB.mono (Nat.le_trans GB2.out HB.out.2)) (fun b h=>h)).int_at ix hixn
    have tt:=(BT.out.fut hB).cell 3
    simp only [gX] at tt
    clear t0 t1 t2 n3 n4 n5 u0 u1 u2 g1 g2 g3 g4 g5 g6 g7 g8 d1 d2
    have XQ2:=XQ.out
    obtain ⟨fn,tmps,assign,body,hy,hR⟩:=HY.out (XS q) v8 wz j3 (by omega)
    rw [HV.out] at cx
    simp only [e8] at hy
    go_step
    go_step
    rw [← wpIn_wide (n:=m)]
    gi_wp2
    refine hR.mono ?_
    rintro e w4 (⟨rfl,hJ4,hk4⟩|⟨rfl,hJx4⟩)
    ·gi_wp2
     go_wp2_with fail
     have b4:=b3.trans hk4
     have s4:=hk4.size
     rw [← XQ2] at hJ4
     exact ⟨⟨q+1,by omega,by go_num,hJ4,b4,by have:=HB.out.2;omega⟩,by simp [intOf];omega⟩
    ·gi_wp2
     refine bodyPost_ret (results_none rfl _ _ _) rfl ?_
     exact ⟨⟨_,rfl⟩,.inr ⟨_,trivial,hJx4⟩⟩
   ·have E1:=RG.out
    simp only [if_neg hin,decide_eq_false hin] at E1
    rw [if_neg hin] at XQ
    replace E1:=zH E1
    have XQ:=zH XQ
    refine wp_region_ext wr (by kernel_rfl) (by kernel_rfl) (Below.refl _ _) ?_
    repeat (go_big_quiet_step ((exact E1.out _)))
    refine wpQuiet_nil ?_
    rintro wz ⟨⟨w3,hB⟩,ewz⟩
    obtain rfl:wz=w3:=by first|exact ewz|exact ewz.symm
    have j3:J (XS q) wz:=HJ.out.1 _ _ _ none HJS.out (below_none hB) (fun r e=>by cases e)
    have b3:Below n₀ W0 wz:=HB.out.1.trans (hB.mono (Nat.le_trans GB2.out HB.out.2))
    have s3:=hB.size
    clear t0 t1 t2 n3 n4 n5 u0 u1 u2 g1 g2 g3 g4 g5 g6 g7 g8 d1 d2
    have XQ2:=XQ.out
    go_wp2_with fail
    rw [← XQ2] at j3
    exact ⟨⟨q+1,by omega,by go_num,j3,b3,by have:=HB.out.2;omega⟩,by simp [intOf];omega⟩
  ·obtain rfl:q=KK:=by omega
   go_wp2_with fail
   refine bodyPost_end (results_none rfl _ _ _) rfl ?_
   exact ⟨⟨_,rfl⟩,.inl ⟨_,rfl,HJS.out⟩⟩
end Go.Proofs.YtjkmjpjknmghlaaGreat
namespace Go.Proofs.YtjkmjpjknmghlaaGreat
open Go.RowKit Go.Shelf
set_option maxRecDepth 100000
set_option maxHeartbeats 4000000
theorem rows_i8 (w:World) (S:Nat → Prop):∀ xs:List I8,RowsOf (tInt .i8) w S (xs.map fun x=>Value.int .i8 x.1) (xs.map fun x=>x.1)
 | []=>rfl
 | x :: xs=>⟨[Value.int .i8 x.1],xs.map fun x=>Value.int .i8 x.1,rfl,⟨rfl,x.2⟩,rows_i8 w S xs⟩
theorem info_i8:(Tryz.prog.info? 39).map (fun i=>(i.zero,i.size,i.bytes))=some (some (.int .i8 0),1,1):=by kernel_rfl
section
attribute [local go_sem] Oper.semAt_some
theorem append8_in (n gf:Nat) (hn:5≤n) (lb:Array Value) (xs:List I8) (N:Nat) (Sp:List I8 → Prop) (w:World) (hN:N≤1000)
  (eg:∀ args w,(callFunc gf args).run Tryz.prog w=.ok (.enter gf args) w)
  (hseq:SeqStopsK Fence.wide (n - 1) Tryz.prog gf lb e8 (Below w.heap.size) (fun ys=>ys=xs) Sp N w) :
  CallsIn Fence.wide n Tryz.prog 127 #[.slice none 0 0,.func (.func gf) #[] lb] w fun e W'=>∃ v,e=.returned v∧W'.ownsRow w.heap.size 39 1 v xs.length (xs.map fun x=>Value.int .i8 x.1)∧Below w.heap.size w W':=by
 have h1:1≤n:=by omega
 obtain ⟨i0,hi,hz0,hz1,hz2⟩:=info_parts info_i8
 refine callsIn_of_wp_marks Tryz.func127 rfl trivial ?_ rfl
 simp only [Tryz.ntmps127,List.size_toArray,List.length_cons,List.length_nil,Nat.reduceAdd,Nat.reduceSub,Array.replicate_succ,Array.replicate_zero,List.push_toArray,List.append_toArray,List.nil_append,List.cons_append]
 gi_wp2
 have bO:=Boxed.new w 25 (.slice none 0 0)
 have hB0:Below w.heap.size w (w.alloc (.cells #[.slice none 0 0] 25)):=(Below.refl _ w).alloc (Nat.le_refl _) _
 refine wpIn_rangeFunc_ownG rfl h1 (gf:=gf) (lb:=lb) rfl trivial eg
  hseq belowK_t (belowK_b (by simp)) hB0 (fun _=>rfl)
  (fun pre W=>(∃ v,Boxed W w.heap.size 25 v∧W.ownsRow w.heap.size 39 1 v pre.length (pre.map fun x=>Value.int .i8 x.1)∧True)∧Below w.heap.size w W)
  (fun _ _ _=>False)
  (OwnFrom.and (Own.from (holdsRow_own w.heap.size w.heap.size 25 39 1 (fun pre:List I8=>pre.length) (fun pre=>pre.map fun x=>Value.int .i8 x.1) (fun pre v=>True)) _) (ownFrom_below (Nat.le_refl _) (by simp)))
  (fun _ _ _ _ _ hs _ _=>hs)
  ⟨⟨_,bO,World.ownsRow_nil _ _ _ _,trivial⟩,hB0⟩
  (fun x=>{ tmps:=#[.slice none 0 0,.func (.func gf) #[] lb,.pointer (some ⟨w.heap.size,0,none⟩),undef,.slice none 0 0,.int .i8 x.1,.func (.func gf) #[] lb,.int .i8 x.1,undef,undef,undef,undef,undef],defers:=[] }) ?assign ?body ?done ?stop
 case assign =>
  intro l x W K hK
  simp only [e8]
  gi_wp2
  exact hK
 case body =>
  rintro l pre x W ⟨⟨v,hv,hrow,-⟩,hB⟩ hlt
  have hc:=hv.cell
  gi_wp2_with (gi_at_builtin;refine wpListIn_append_own _ rfl _ _ 25 rfl w.heap.size 39 i0 (.int .i8 0) 1 1 Tryz.underlying25 hi hz0 hz1 hz2 rfl (by decide) _ _ _ rfl (hrow.alloc _) ⟨W.heap.size,0,none⟩ 1 1 [.int .i8 x.1] rfl rfl (cell_one_new _ _ _) (by simp [Value.oneCell']) (by unfold maxLen;omega) (by omega) (by have:=hB.size;simp;omega) ?_;intro v' w1 hown' hgrow _;obtain ⟨g',cap',rfl⟩:=ownsRow_succ hown';obtain ⟨hv1,hv2,hr2,hk2,hb2⟩:=hv.appended (by decide) hrow hB.size (Nat.le_refl _) hown' hgrow;have hc1:=hv1.cell;have hf1:=hv1.frozen)
  exact ⟨hk2.from _,hb2,⟨_,hv2,by simpa using hr2,trivial⟩,hB.trans hb2⟩
 case done =>
  rintro D ys W hD rfl ⟨⟨v,hv,hrow,-⟩,hB⟩ hK
  have hc:=hv.cell
  gi_wp2
  refine ⟨by simp,.inl ⟨_,_,rfl,run_takeDeferred hK,?_⟩⟩
  exact ⟨_,results_tmp rfl _ _ _,v,rfl,ownsRow_putObj hrow _ hK rfl,hB.trans (belowK_b (w:=w) (Nat.le_refl _) W D _ _ (by simp at hD;omega) hK rfl rfl)⟩
 case stop =>
  rintro D c pre W _ _ h _
  exact h.elim
end
theorem collect8_any (gf:Nat) (lb:Array Value) (xs:List I8) (N:Nat) (Sp:List I8 → Prop) (w:World) (hN:N≤1000)
  (eg:∀ args w,(callFunc gf args).run Tryz.prog w=.ok (.enter gf args) w)
  (hseq:SeqStopsK Fence.wide 5 Tryz.prog gf lb e8 (Below w.heap.size) (fun ys=>ys=xs) Sp N w) :
  Calls Tryz.prog 109 #[.func (.func gf) #[] lb] w (RetSl (tInt .i8) w (xs.map fun x=>x.1)):=by
 go_enter Tryz.func109,Tryz.ntmps109
 go_wp2_with (go_at_call 127;refine ((callsIn_wide (n:=6)).1 (append8_in 6 gf (by decide) lb xs N Sp w hN eg hseq)).mono ?_;rintro e w2 ⟨v,rfl,hrow,hb⟩)
 go_ret
 have ho:Own (tInt .i8) w2 (fun _=>False) w.heap.size 39 v xs.length (xs.map fun x=>x.1):=⟨_,hrow,rows_i8 _ _ _⟩
 exact ho.ret (by decide) hb (fun _ h=>h.elim)
theorem window_any (H V C:Nat) (A:Option Addr) (n cap:Nat) (l:List Int) (d:Node) (W:Option Addr) (nw cw:Nat) (B:Option Addr) (nb cb:Nat) (K S P y x c:Nat) (w:World)
  (hl:Sl (tInt .i8) w (blo w.heap.size) A n cap l) (hn:n=H*V*C) (hn2:n≤1024) (h1:1≤H∧H≤16) (v1:1≤V∧V≤16) (c1:1≤C∧C≤1024) (he:decide (0 < elems H V C)=true)
  (hk:d.k=K) (hs:d.s=S) (hp:d.p=P) (k1:1≤K∧K≤5) (s1:1≤S∧S≤4) (p1:P≤4) (hy:y≤1000) (hx:x≤1000) (hc:c < C) :
  Calls Tryz.prog 110 #[.agg (tN H V C A n cap),.agg (nN d.kind d.a d.b d.k d.s d.p d.out d.za d.zb W nw cw B nb cb d.qm d.qs d.qz d.rm d.rs d.rz d.lo d.hi),.int .i64 y,.int .i64 x,.int .i64 c] w fun e w' =>
   ∃ F,e=.returned F∧Below w.heap.size w w'∧Calls Tryz.prog 109 #[F] w' (RetSl (tInt .i8) w' (winL H V C l K S P c y x (K*K))):=by
 have HL:=zH hl
 have hkk:K*K≤5*5:=Nat.mul_le_mul k1.2 k1.2
 have FR:=zH (Far.refl w)
 obtain ⟨w1,hw_w1,BT,k_w1⟩:=nB w (tN H V C A n cap) 27
 replace FR:=zH (FR.out.fut k_w1)
 clear k_w1
 obtain ⟨w2,hw_w2,BN,k_w2⟩:=nB w1 (nN d.kind d.a d.b d.k d.s d.p d.out d.za d.zb W nw cw B nb cb d.qm d.qs d.qz d.rm d.rs d.rz d.lo d.hi) 44
 replace FR:=zH (FR.out.fut k_w2)
 replace BT:=zH (BT.out.fut k_w2)
 clear k_w2
 obtain ⟨w3,hw_w3,BH,k_w3⟩:=nB w2 #[.int .i64 y] 3
 replace FR:=zH (FR.out.fut k_w3)
 replace BT:=zH (BT.out.fut k_w3)
 replace BN:=zH (BN.out.fut k_w3)
 clear k_w3
 obtain ⟨w4,hw_w4,BW,k_w4⟩:=nB w3 #[.int .i64 x] 3
 replace FR:=zH (FR.out.fut k_w4)
 replace BT:=zH (BT.out.fut k_w4)
 replace BN:=zH (BN.out.fut k_w4)
 replace BH:=zH (BH.out.fut k_w4)
 clear k_w4
 obtain ⟨w5,hw_w5,BC,k_w5⟩:=nB w4 #[.int .i64 c] 3
 replace FR:=zH (FR.out.fut k_w5)
 replace BT:=zH (BT.out.fut k_w5)
 replace BN:=zH (BN.out.fut k_w5)
 replace BH:=zH (BH.out.fut k_w5)
 replace BW:=zH (BW.out.fut k_w5)
 clear k_w5
 have q1:w.heap.size < w1.heap.size:=by rw [← hw_w1];simp
 have q2:w1.heap.size < w2.heap.size:=by rw [← hw_w2];simp
 have q3:w2.heap.size < w3.heap.size:=by rw [← hw_w3];simp
 have q4:w3.heap.size < w4.heap.size:=by rw [← hw_w4];simp
 have q5:w4.heap.size < w5.heap.size:=by rw [← hw_w5];simp
 have s5:=zH ((Old.now HL.out).fut FR.out.out).all
 have WS:=zH (win1_stops H V C A n cap l d W nw cw B nb cb K S P y x c w1.heap.size w.heap.size w2.heap.size w3.heap.size w4.heap.size w5.heap.size 5 w5 s5.out hn hn2 h1 v1 c1 he hk hs hp k1 s1 p1 hy hx hc BN.out BT.out BH.out BW.out BC.out ⟨by omega,by omega,by omega,by omega,by omega⟩ (Nat.le_refl _) (by decide))
 clear hn hk hs hp he hl
 go_enter Tryz.func110,Tryz.ntmps110
 go_wp2_with fail
 go_ret
 refine ⟨_,rfl,FR.out.out,?_⟩
 refine (collect8_any 128 #[.pointer (some ⟨w1.heap.size,0,none⟩),.pointer (some ⟨w.heap.size,0,none⟩),.pointer (some ⟨w2.heap.size,0,none⟩),.pointer (some ⟨w3.heap.size,0,none⟩),.pointer (some ⟨w4.heap.size,0,none⟩)] (winX H V C l s5.out.allK K S P c y x (K*K)) (K*K) (fun _=>True) w5 (by omega) (enters_of Tryz.func128 (by kernel_rfl) rfl) WS.out).mono ?_
 intro e w6 h
 rw [winX_map] at h
 exact h
end Go.Proofs.YtjkmjpjknmghlaaGreat
namespace Go.Proofs.YtjkmjpjknmghlaaGreat
open Go.RowKit Go.ChangeShapes Go.WideShapes Fx
set_option maxRecDepth 100000
set_option maxHeartbeats 4000000
def hiN (l:List Int):Nat → Int
 | 0=>l.getD 0 0
 | k+1=>if hiN l k < l.getD k 0 then l.getD k 0 else hiN l k
def loN (l:List Int):Nat → Int
 | 0=>l.getD 0 0
 | k+1=>if l.getD k 0 < loN l k then l.getD k 0 else loN l k
theorem reach_any (A:Option Addr) (n cap:Nat) (l:List Int) (w:World) (hl:Sl (tInt .i8) w (blo w.heap.size) A n cap l) (hn:n≤1024) :
  Calls Tryz.prog 59 #[.slice A n cap] w fun e w'=>e=.returned (.tuple #[.int .i8 (if n=0 then 0 else loN l n),.int .i8 (if n=0 then 0 else hiN l n)])∧Below w.heap.size w w':=by
 have H:=zH hl
 clear hl
 by_cases n0:n=0
 ·rw [if_pos n0,if_pos n0]
  subst n0
  go_enter Tryz.func59,Tryz.ntmps59
  go_wp2_with fail
  go_ret2
  exact ⟨rfl,Below.refl _ _⟩
 rw [if_neg n0,if_neg n0]
 obtain ⟨b,o,rfl,-,-,c0,i0⟩:=H.out.int_at 0 (by omega)
 rw [Nat.add_zero] at c0
 have t0:((n:Int) == 0)=false:=by simp;omega
 have t1:¬ (n:Int)=0:=by omega
 have t2:0 < n:=by omega
 have L0:=zH (show loN l 0=l.getD 0 0 from rfl)
 have H0:=zH (show hiN l 0=l.getD 0 0 from rfl)
 obtain ⟨x0,hx0⟩:∃ x,l.getD 0 0=x:=⟨_,rfl⟩
 rw [hx0] at c0 i0 L0 H0
 clear hx0
 go_enter Tryz.func59,Tryz.ntmps59
 go_wp2_with fail
 go_quiet (fail)
 obtain ⟨wq,hwq⟩:∃ m,w.drewN nq=m:=⟨_,rfl⟩
 have FR:=zH (show Far w wq from ⟨by rw [← hwq];exact below_drewN (Below.refl _ _) _⟩)
 go_wp2_with fail
 rw [hwq]
 clear hwq c0
 go_loopw [4,5,6] (fun u v ii wr=>∃ k:Nat,k≤n∧ii=.int .i64 k∧u=.int .i8 (loN l k)∧v=.int .i8 (hiN l k)∧Far w wr) (fun _ _ ii _=>n - (intOf ii).toNat)
 case atStart=>exact ⟨0,Nat.zero_le _,rfl,by rw [L0.out],by rw [H0.out],FR.out⟩
 case round =>
  obtain ⟨k,hk,rfl,rfl,rfl,hf⟩:=hrel
  clear FR
  have FR:=zH hf
  clear hf
  by_cases hlt:k < n
  ·have p1:(k:Int) < (n:Int):=by omega
   obtain ⟨b',o',e',-,-,cx,ix⟩:=((Old.now H.out).fut FR.out.out).all.int_at k hlt
   simp only [Option.some.injEq,Addr.mk.injEq,and_true] at e'
   obtain ⟨rfl,rfl⟩:=e'
   have LS:=zH (show loN l (k+1)=if l.getD k 0 < loN l k then l.getD k 0 else loN l k from rfl)
   have HS:=zH (show hiN l (k+1)=if hiN l k < l.getD k 0 then l.getD k 0 else hiN l k from rfl)
   obtain ⟨x,hx⟩:∃ x,l.getD k 0=x:=⟨_,rfl⟩
   rw [hx] at cx ix LS HS
   clear hx
   go_wp2_with fail
   exact ⟨⟨k+1,by omega,by go_num,by rw [LS.out],by rw [HS.out],FR.out⟩,by simp [intOf];omega⟩
  ·obtain rfl:k=n:=by omega
   go_wp2_with fail
   go_ret2
   exact ⟨rfl,FR.out.out⟩
end Go.Proofs.YtjkmjpjknmghlaaGreat
