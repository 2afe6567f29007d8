/-
  A bias is added, channel by channel (layer 14: lower.biased's function).
  Rows multiplied (layer 13): gemm.may where all is within bounds.
  The least and the greatest number (layer 5, the document's Reach).
  slices.Clone of []int8.
  copy into a slice of the call's own (numbers): what went over lies there.
  slices.Clone of []int32.
  A node that is handed back (layer 25).
  Lists alike, element by element.
  slices.Equal of []int8.
  slices.Equal of []int32.
-/
import Derived.StillTailTactics
import Derived.Test.YtlbkekabmpienaaGreatJ14
import Derived.Test.YtlbkekabmpienaaGreatJ11
import Derived.Test.YtlbkekabmpienaaGreatJ00
import Derived.Test.YtlbkekabmpienaaGreatChecked
import Derived.Test.YtlbkekabmpienaaGreatJ06
import Derived.Laws.CopyOwn
import Derived.Test.YtlbkekabmpienaaGreatJ01
namespace Go.Proofs.YtlbkekabmpienaaGreat
set_option linter.unusedVariables false
set_option linter.unusedSimpArgs false
open Go.RowKit Go.ChangeShapes Go.WideShapes Fx
set_option maxRecDepth 100000
set_option maxHeartbeats 4000000
theorem grown_tr {w w1 w2:World} {r:Option Nat} (h:w.grownBy w1 r) (h':w1.grownBy w2 r):w.grownBy w2 r :=
 ⟨h'.os.trans h.os,h'.tape.trans h.tape,h'.output.trans h.output,Nat.le_trans h.size h'.size,fun k hk hne=>(h'.block k (Nat.lt_of_lt_of_le hk h.size) hne).trans (h.block k hk hne)⟩
theorem grown_drew (w:World) (r:Option Nat):w.grownBy w.drew r:=⟨rfl,rfl,rfl,Nat.le_refl _,fun _ _ _=>rfl⟩
theorem grown_self (w:World) (r:Option Nat):w.grownBy w r:=⟨rfl,rfl,rfl,Nat.le_refl _,fun _ _ _=>rfl⟩
/-- A list that is turned from the left. -/
def stM (f g:Nat → Int) (n k:Nat):List Int:=(List.range n).map fun i=>if i < k then f i else g i
theorem stM_zero (f g:Nat → Int) (n:Nat):stM f g n 0=(List.range n).map g:=by unfold stM;apply List.map_congr_left;intro i _;rw [if_neg (by omega)]
theorem stM_all (f g:Nat → Int) (n:Nat):stM f g n n=(List.range n).map f:=by unfold stM;apply List.map_congr_left;intro i hi;rw [if_pos (List.mem_range.1 hi)]
theorem stM_at (f g:Nat → Int) (n k:Nat) (h:k < n):(stM f g n k)[k]?=some (g k):=by
 unfold stM
 rw [List.getElem?_map,List.getElem?_range h]
 simp
theorem stM_set (f g:Nat → Int) (n k:Nat):(stM f g n k).set k (f k)=stM f g n (k+1):=by
 unfold stM
 apply List.ext_getElem (by simp)
 intro i h1 h2
 rw [List.getElem_set]
 simp only [List.getElem_map,List.getElem_range]
 by_cases e:k=i
 ·subst e;rw [if_pos rfl,if_pos (by omega)]
 ·rw [if_neg e]
  by_cases h:i < k
  ·rw [if_pos h,if_pos (by omega)]
  ·rw [if_neg h,if_neg (by omega)]
theorem list_range {l:List Int} {n:Nat} (h:l.length=n):(List.range n).map (fun i=>l.getD i 0)=l:=by
 subst h
 apply List.ext_getElem (by simp)
 intro i h1 h2
 simp at h1
 simp [List.getD_eq_getElem?_getD,List.getElem?_eq_getElem h1]
theorem biased_any (p:Addr) (B:Option Addr) (nb cb:Nat) (bl:List Int) (m base q N:Nat) (l:List Int) (w:World) (hb:Sl (tInt .i32) w (blo m) B nb cb bl) (hm:m≤base) (hp:w.cell? p=some (.slice B nb cb)) (hpq:p.block ≠ q)
  (hown:Own (tInt .i32) w (fun _=>False) base 21 (.slice (some ⟨q,0,none⟩) N N) N l) (hnb:1≤nb) (hN:N≤65536) :
  Calls Tryz.prog 122 #[.slice (some ⟨q,0,none⟩) N N,.pointer (some p)] w fun e w'=>e=.returned (.tuple #[])∧Own (tInt .i32) w' (fun _=>False) base 21 (.slice (some ⟨q,0,none⟩) N N) N ((List.range N).map fun i=>wrap32 (l.getD i 0+bl.getD (i % nb) 0))∧w.grownBy w' (some q):=by
 have HB:=zH hb
 have HP:=zH hp
 have mx:=Nat.le_trans hb.cap_le hb.max_le
 have mx2:nb≤9223372036854775807:=mx
 have lq:=hown.lt _ rfl
 have PQ:=zH hpq
 have hlen:=hown.length (by decide)
 have ON:=zH (show Own (tInt .i32) w (fun _=>False) base 21 (.slice (some ⟨q,0,none⟩) N N) N (stM (fun i=>wrap32 (l.getD i 0+bl.getD (i % nb) 0)) (fun i=>l.getD i 0) N 0) by rw [stM_zero,list_range hlen];exact hown)
 have nz:¬ nb=0:=by omega
 have nz2:(nb:Int) ≠ 0:=by omega
 clear hb hp hown hlen hpq mx
 go_enter Tryz.func122,Tryz.ntmps122
 go_wp2_with fail
 go_loopw [6] (fun ii wr=>∃ k:Nat,k≤N∧ii=.int .i64 k∧w.grownBy wr (some q)∧Own (tInt .i32) wr (fun _=>False) base 21 (.slice (some ⟨q,0,none⟩) N N) N (stM (fun i=>wrap32 (l.getD i 0+bl.getD (i % nb) 0)) (fun i=>l.getD i 0) N k)) (fun ii _=>N - (intOf ii).toNat)
 case atStart=>exact ⟨0,Nat.zero_le _,rfl,grown_self _ _,ON.out⟩
 case round =>
  obtain ⟨k,hk,rfl,hg,hon⟩:=hrel
  clear ON
  have GR:=zH hg
  have ON:=zH hon
  clear hg hon
  by_cases hlt:k < N
  ·have p1:(k:Int) < (N:Int):=by omega
   obtain ⟨kb,hkb⟩:∃ x,k % nb=x:=⟨_,rfl⟩
   have hkl:kb < nb:=by rw [← hkb];exact Nat.mod_lt _ hnb
   have d1:(k:Int).tmod (nb:Int)=(kb:Int):=by rw [← hkb,Int.tmod_eq_emod_of_nonneg (by omega)];simp
   have d2:(k:Int) % (nb:Int)=(kb:Int):=by rw [← hkb];simp
   have g1:IntKind.i64.wrap (kb:Int)=(kb:Int):=IntWalk.i64_in _ (by omega)
   have hp:wr.cell? p=some (.slice B nb cb):=cell_grown GR.out HP.out (fun e=>PQ.out (Option.some.inj e))
   obtain ⟨bz,oz,rfl,hz1,-,cy,iy⟩:=HB.out.int_at kb hkl
   have cy':wr.cell? ⟨bz,oz+kb,none⟩=some (.int .i32 (bl.getD kb 0)):=cell_grown GR.out cy (fun e=>by have:=Option.some.inj e;simp only at this;unfold blo at hz1;omega)
   obtain ⟨x0,u0,hx0,hu0,c5,c6,c7,-⟩:=ON.out.cell rfl k hlt
   rw [stM_at _ _ _ _ hlt] at hx0
   obtain ⟨hu1,hu2⟩:=hu0
   simp only [List.cons.injEq,and_true] at hu1
   subst hu1
   have hx1:=Option.some.inj hx0
   have FS:=zH (stM_set (fun i=>wrap32 (l.getD i 0+bl.getD (i % nb) 0)) (fun i=>l.getD i 0) N k)
   obtain ⟨y,hy⟩:∃ x,bl.getD kb 0=x:=⟨_,rfl⟩
   rw [hy] at cy'
   obtain ⟨res,hres⟩:∃ r,wrap32 (x0+y)=r:=⟨_,rfl⟩
   have e6:IntKind.i32.wrap (x0+y)=res:=by rw [IntKind.wrap_i32,← hres];unfold wrap32;rfl
   have FE:=zH (show wrap32 (l.getD k 0+bl.getD (k % nb) 0)=res by rw [hkb,hy,hx1,hres])
   have RE:=zH (show InK .i32 res by rw [inK_i32,← hres];exact wrap32_in _)
   clear hkb hy hres hx0 hx1 cy hu2
   go_wp2_with fail
   go_still_tail 12,(by kernel_rfl)
   change wpList _ _ _ _ _ wr.drew
   have G2:=zH (grown_tr GR.out (grown_drew wr (some q)))
   have O2:=zH (ON.out.heap (w':=wr.drew) rfl)
   clear c5 c6 c7 cy' hp ON GR
   generalize wr.drew=wy at *
   obtain ⟨x9,u9,-,-,c5,c6,c7,-⟩:=O2.out.cell rfl k hlt
   go_wp2_with fail
   obtain ⟨o3,g3⟩:=O2.out.set1 rfl k (.int .i32 res) res ⟨rfl,RE.out⟩ (fun _ h=>h.elim)
   have fs:=FS.out
   simp only [FE.out] at fs
   rw [fs] at o3
   exact ⟨⟨k+1,by omega,by go_num,grown_tr G2.out g3,o3⟩,by simp [intOf];omega⟩
  ·obtain rfl:k=N:=by omega
   go_wp2_with fail
   ((try simp only [Exit.inBlock,Exit.then]);refine bodyPost_end (results_none rfl _ _ _) rfl ?_)
   have e:=ON.out
   rw [stM_all] at e
   exact ⟨rfl,e,GR.out⟩
end Go.Proofs.YtlbkekabmpienaaGreat
namespace Go.Proofs.YtlbkekabmpienaaGreat
set_option linter.unusedVariables false
set_option linter.unusedSimpArgs false
open Go.RowKit Go.ChangeShapes Go.WideShapes Fx
set_option maxRecDepth 100000
set_option maxHeartbeats 4000000
theorem gemMay_any (A:Option Addr) (n cap:Nat) (l:List Int) (w:World) (hl:Sl (tInt .i64) w (blo w.heap.size) A n cap l) (hn:n≤1024) (hb:∀ i,i < n → 1≤l.getD i 0∧l.getD i 0≤16384) :
  Calls Tryz.prog 120 #[.slice A n cap] w fun e w'=>e=.returned (.bool true)∧w=w':=by
 have H:=zH hl
 have HB:=zH hb
 clear hl hb
 go_enter Tryz.func120,Tryz.ntmps120
 go_wp2_with fail
 go_loopw [7] (fun ii wr=>∃ k:Nat,k≤n∧ii=.int .i64 k∧w=wr) (fun ii _=>n - (intOf ii).toNat)
 case atStart=>exact ⟨0,Nat.zero_le _,rfl,rfl⟩
 case round =>
  obtain ⟨k,hk,rfl,rfl⟩:=hrel
  by_cases hlt:k < n
  ·have p1:(k:Int) < (n:Int):=by omega
   obtain ⟨b,o,rfl,-,-,cx,ix⟩:=H.out.int_at k hlt
   obtain ⟨x1,x2⟩:=HB.out k hlt
   obtain ⟨x,hx⟩:∃ x,l.getD k 0=x:=⟨_,rfl⟩
   rw [hx] at cx ix x1 x2
   have t1:¬ x < 1:=by omega
   have t2:¬ 16384 < x:=by omega
   clear hx
   go_wp2_with fail
   exact ⟨⟨k+1,by omega,by go_num,by trivial⟩,by simp [intOf];omega⟩
  ·obtain rfl:k=n:=by omega
   go_wp2_with fail
   go_ret
   exact ⟨rfl,by trivial⟩
end Go.Proofs.YtlbkekabmpienaaGreat
namespace Go.Proofs.YtlbkekabmpienaaGreat
set_option linter.unusedVariables false
set_option linter.unusedSimpArgs false
open Go.RowKit Go.ChangeShapes Go.WideShapes Fx
set_option maxRecDepth 100000
set_option maxHeartbeats 4000000
def hiN (l:List Int):Nat → Int
 | 0=>l.getD 0 0
 | k+1=>if hiN l k < l.getD k 0 then l.getD k 0 else hiN l k
end Go.Proofs.YtlbkekabmpienaaGreat
namespace Go.Proofs.YtlbkekabmpienaaGreat
set_option linter.unusedVariables false
set_option linter.unusedSimpArgs false
open Go.RowKit Go.ChangeShapes Go.WideShapes
set_option maxRecDepth 100000
theorem ei_i8':EI Tryz.prog 23 22 (.int .i8 0) 1 1:=⟨Tryz.underlying23,by kernel_rfl,rfl,by decide⟩
theorem clone8_any (A:Option Addr) (n c:Nat) (l:List Int) (w:World) (h:Sl (tInt .i8) w (blo w.heap.size) A n c l) (hn:n≤140737488351232) :
  Calls Tryz.prog 62 #[.slice A n c] w (RetSl (tInt .i8) w l):=by
 cases A with
 | none =>
  have hc:=h.nil_ rfl
  have hm:=h.cap_le
  obtain rfl:c=0:=hc
  obtain rfl:n=0:=by omega
  obtain rfl:l=[]:=List.length_eq_zero_iff.1 h.n_eq
  clear h
  have q0:=fun w=>Lib.run_eql_slice_nil (P:=Tryz.prog) w 23 22 none 0 0 0 0 Tryz.underlying23
  simp only [Option.isNone_none] at q0
  go_enter Tryz.func62,Tryz.ntmps62
  go_wp2_with fail
  go_ret
  exact ⟨none,0,0,rfl,Sl.nil _ _ _,Below.refl _ _⟩
 | some ad =>
  have H:=zH h
  clear h
  have q0:=fun w=>Lib.run_eql_slice_nil (P:=Tryz.prog) w 23 22 (some ad) n c 0 0 Tryz.underlying23
  simp only [Option.isNone_some] at q0
  go_enter Tryz.func62,Tryz.ntmps62
  have o0:=Own.lit0 (W:=w) (k:=.i8) (E:=22) (base:=w.heap.size) (Nat.le_refl _)
  have k0:Below w.heap.size w (w.alloc (.cells #[] 22)):=(Below.refl _ _).alloc (Nat.le_refl _) _
  have s0:=H.out.later k0 (Nat.le_refl _)
  go_wp2_with (at_builtin;refine wpList_extend rfl _ _ rfl ei_i8' rfl o0 rfl s0 (by unfold maxLen;omega) (by omega) k0.size ?_;intro v' w' o' g' a')
  go_ret
  refine o'.ret (by decide) (k0.grown g' k0.size (fun k h=>(o0.lt k h).1)) (fun b h=>h.elim)
end Go.Proofs.YtlbkekabmpienaaGreat
namespace Go.Proofs.YtlbkekabmpienaaGreat
set_option linter.unusedVariables false
set_option linter.unusedSimpArgs false
open Go
section
variable {P:Program} {ops:Array Oper} {Q:Exit → Act → World → Prop} {o:Oper} {a:Act} {k:IntKind} {w:World} {base q N:Nat} {E:TypeId} {L:List Int}
theorem own_copied (own:Own (tInt k) w (fun _=>False) base E (.slice (some ⟨q,0,none⟩) N N) N L) (off:Nat) (xs:List Int) (hx:∀ x ∈ xs,InK k x) (hfit:off+xs.length≤N) :
  ∃ cur:Array Value,w.heap[q]?=some (.cells cur E (0,0))∧cur.size=N∧∀ w',w'=w.setRow q (cur.toList.take off ++ (xs.map (Value.int k) ++ cur.toList.drop (off+xs.length))).toArray →
   Own (tInt k) w' (fun _=>False) base E (.slice (some ⟨q,0,none⟩) N N) N (splice L off xs)∧w.grownBy w' (some q):=by
 obtain ⟨vs,⟨h1,h2⟩,h3⟩:=own.out
 obtain ⟨e1,e2⟩:=h3.ints_iff
 rcases h2 with ⟨e,-⟩|⟨g,cap,cur,e,hb,hg,hc,hm,hs,ht⟩
 ·cases e
 ·injection e with e e' e''
  injection e with e
  injection e with e
  subst e e''
  have sz:(tInt k).size=1:=rfl
  rw [sz,Nat.mul_one] at hs ht h1
  have hcl:cur.toList=L.map (Value.int k):=by
   rw [← e1,← ht,List.take_of_length_le (by rw [Array.length_toList];omega)]
  refine ⟨cur,hg,hs,?_⟩
  rintro w' rfl
  have hl:(splice L off xs).length=N:=by
   have:L.length=N:=by rw [← h1,e1,List.length_map]
   rw [length_splice _ _ _ (by omega),this]
  have hrow:(cur.toList.take off ++ (xs.map (Value.int k) ++ cur.toList.drop (off+xs.length)))=(splice L off xs).map (Value.int k):=by
   rw [hcl];simp [splice]
  rw [hrow]
  refine ⟨⟨(splice L off xs).map (Value.int k),⟨by rw [List.length_map,hl,sz,Nat.mul_one],.inr ⟨q,N,((splice L off xs).map (Value.int k)).toArray,rfl,hb,setRow_heap w q _ _ E _ hg,Nat.le_refl _,hm,by simp [hl,sz],by rw [sz,Nat.mul_one,List.take_of_length_le (by simp [hl])]⟩⟩,RowsOf.ints ?_⟩,⟨rfl,rfl,rfl,by simp [World.setRow],fun j _ hj=>setRow_other w q j _ (fun e=>hj (by rw [e]))⟩⟩
  intro x hxm
  unfold splice at hxm
  rcases List.mem_append.1 hxm with h|h
  ·exact e2 x (List.mem_of_mem_take h)
  ·rcases List.mem_append.1 h with h|h
   ·exact hx x h
   ·exact e2 x (List.mem_of_mem_drop h)
theorem oper_copyO {K:Act → World → Prop} (d s:Operand) (dT sT:TypeId) (ho:o.op=.call { callee:=.builtin .copy,args:=#[d,s],argTypes:=#[dT,sT] }) (elem:TypeId) (hu:P.underlying dT=some (.slice elem)) (hsz:(P.info? elem).map (·.size)=some 1)
  (own:Own (tInt k) w (fun _=>False) base E (.slice (some ⟨q,0,none⟩) N N) N L) (off dLen dCap:Nat) (hd:a.eval d=.slice (some ⟨q,off,none⟩) dLen dCap) (ad:Addr) (sLen sCap:Nat) (hs:a.eval s=.slice (some ad) sLen sCap)
  (xs:List Int) (hx:∀ x ∈ xs,InK k x) (hn:xs.length=Nat.min sLen dLen) (hsrc:∀ j,j < xs.length → w.cell? (ad.add j)=some (.int k (xs.getD j 0))) (hfit:off+xs.length≤N)
  (h:∀ w',Own (tInt k) w' (fun _=>False) base E (.slice (some ⟨q,0,none⟩) N N) N (splice L off xs) → w.grownBy w' (some q) → K (a.put o.dst (goInt xs.length)) w'):Oper.wp P o a w K Q:=by
 obtain ⟨cur,hg,hc,hw⟩:=own_copied own off xs hx hfit
 have hrun:=run_copy_row (P:=P) w dT sT o.type elem q off dLen dCap ad sLen sCap cur E (xs.map (Value.int k)) hu hsz hg (by simpa using hn) (fun j v hv=>by
  rw [List.getElem?_map] at hv
  have hj:j < xs.length:=by
   cases e:xs[j]? with
   | none=>rw [e] at hv;cases hv
   | some y=>exact (List.getElem?_eq_some_iff.1 e).1
  rw [hsrc j hj,← hv,List.getD_eq_getElem?_getD,List.getElem?_eq_getElem hj];rfl) (by simpa [hc] using hfit) (by intro v hv;obtain ⟨y,-,rfl⟩:=List.mem_map.1 hv;rfl)
 obtain ⟨h1,h2⟩:=hw _ rfl
 have:=h _ h1 h2
 unfold Oper.wp
 simp only [List.length_map] at hrun
 simp [execOp,ho,resolve,invoke,builtin,hd,hs,hrun,Result.andThen]
 exact this
theorem wpList_copyO {rest:List Oper} (hgd:o.guard=none) (d s:Operand) (dT sT:TypeId) (ho:o.op=.call { callee:=.builtin .copy,args:=#[d,s],argTypes:=#[dT,sT] }) (elem:TypeId) (hu:P.underlying dT=some (.slice elem)) (hsz:(P.info? elem).map (·.size)=some 1)
  (own:Own (tInt k) w (fun _=>False) base E (.slice (some ⟨q,0,none⟩) N N) N L) (off dLen dCap:Nat) (hd:a.eval d=.slice (some ⟨q,off,none⟩) dLen dCap) (ad:Addr) (sLen sCap:Nat) (hs:a.eval s=.slice (some ad) sLen sCap)
  (xs:List Int) (hx:∀ x ∈ xs,InK k x) (hn:xs.length=Nat.min sLen dLen) (hsrc:∀ j,j < xs.length → w.cell? (ad.add j)=some (.int k (xs.getD j 0))) (hfit:off+xs.length≤N)
  (h:∀ w',Own (tInt k) w' (fun _=>False) base E (.slice (some ⟨q,0,none⟩) N N) N (splice L off xs) → w.grownBy w' (some q) → wpList P ops Q rest (a.put o.dst (goInt xs.length)) w'):wpList P ops Q (o :: rest) a w :=
 wpList_plain hgd fun K hK=>oper_copyO d s dT sT ho elem hu hsz own off dLen dCap hd ad sLen sCap hs xs hx hn hsrc hfit fun w' h1 h2=>hK _ _ (h w' h1 h2)
end
end Go.Proofs.YtlbkekabmpienaaGreat
namespace Go.Proofs.YtlbkekabmpienaaGreat
set_option linter.unusedVariables false
set_option linter.unusedSimpArgs false
open Go.RowKit Go.ChangeShapes Go.WideShapes
set_option maxRecDepth 100000
theorem ei_i32':EI Tryz.prog 24 21 (.int .i32 0) 1 4:=⟨Tryz.underlying24,by kernel_rfl,rfl,by decide⟩
theorem clone32_any (A:Option Addr) (n c:Nat) (l:List Int) (w:World) (h:Sl (tInt .i32) w (blo w.heap.size) A n c l) (hn:n≤35184372087808) :
  Calls Tryz.prog 90 #[.slice A n c] w (RetSl (tInt .i32) w l):=by
 cases A with
 | none =>
  have hc:=h.nil_ rfl
  have hm:=h.cap_le
  obtain rfl:c=0:=hc
  obtain rfl:n=0:=by omega
  obtain rfl:l=[]:=List.length_eq_zero_iff.1 h.n_eq
  clear h
  have q0:=fun w=>Lib.run_eql_slice_nil (P:=Tryz.prog) w 24 21 none 0 0 0 0 Tryz.underlying24
  simp only [Option.isNone_none] at q0
  go_enter Tryz.func90,Tryz.ntmps90
  go_wp2_with fail
  go_ret
  exact ⟨none,0,0,rfl,Sl.nil _ _ _,Below.refl _ _⟩
 | some ad =>
  have H:=zH h
  clear h
  have q0:=fun w=>Lib.run_eql_slice_nil (P:=Tryz.prog) w 24 21 (some ad) n c 0 0 Tryz.underlying24
  simp only [Option.isNone_some] at q0
  go_enter Tryz.func90,Tryz.ntmps90
  have o0:=Own.lit0 (W:=w) (k:=.i32) (E:=21) (base:=w.heap.size) (Nat.le_refl _)
  have k0:Below w.heap.size w (w.alloc (.cells #[] 21)):=(Below.refl _ _).alloc (Nat.le_refl _) _
  have s0:=H.out.later k0 (Nat.le_refl _)
  go_wp2_with (at_builtin;refine wpList_extend rfl _ _ rfl ei_i32' rfl o0 rfl s0 (by unfold maxLen;omega) (by omega) k0.size ?_;intro v' w' o' g' a')
  go_ret
  refine o'.ret (by decide) (k0.grown g' k0.size (fun k h=>(o0.lt k h).1)) (fun b h=>h.elim)
end Go.Proofs.YtlbkekabmpienaaGreat
namespace Go.Proofs.YtlbkekabmpienaaGreat
set_option linter.unusedVariables false
set_option linter.unusedSimpArgs false
open Go.RowKit Go.ChangeShapes Go.WideShapes
/-- A node is handed back, its numbers in new memory. -/
def RetNode (d:Node) (w:World) (e:Ending) (w':World):Prop :=
 ∃ (W:Option Addr) (nw cw:Nat) (B:Option Addr) (nb cb:Nat),e=.returned (.agg #[.int .i64 d.kind,.int .i64 d.a,.int .i64 d.b,.int .i64 d.k,.int .i64 d.s,.int .i64 d.p,.int .i64 d.out,.int .i8 d.za,.int .i8 d.zb,.slice W nw cw,.slice B nb cb,.int .i32 d.qm,.int .i64 d.qs,.int .i8 d.qz,.int .i32 d.rm,.int .i64 d.rs,.int .i8 d.rz,.int .i8 d.lo,.int .i8 d.hi])∧Sl (tInt .i8) w' (bin w.heap.size w'.heap.size) W nw cw d.w∧Sl (tInt .i32) w' (bin w.heap.size w'.heap.size) B nb cb d.bias∧Below w.heap.size w w'
end Go.Proofs.YtlbkekabmpienaaGreat
namespace Go.Proofs.YtlbkekabmpienaaGreat
theorem list_eq_getD {l l':List Int} {n:Nat} (h1:l.length=n) (h2:l'.length=n) (h:∀ j,j < n → l.getD j 0=l'.getD j 0):l=l':=by
 apply List.ext_getElem (by omega)
 intro j ha hb
 have:=h j (by omega)
 rw [List.getD_eq_getElem?_getD,List.getD_eq_getElem?_getD,List.getElem?_eq_getElem ha,List.getElem?_eq_getElem hb] at this
 exact this
end Go.Proofs.YtlbkekabmpienaaGreat
namespace Go.Proofs.YtlbkekabmpienaaGreat
set_option linter.unusedVariables false
set_option linter.unusedSimpArgs false
open Go.RowKit Go.ChangeShapes Go.WideShapes
set_option maxRecDepth 100000
theorem equal8_any (A A':Option Addr) (n cap n' cap':Nat) (l l':List Int) (w:World) (h:Sl (tInt .i8) w (blo w.heap.size) A n cap l) (h':Sl (tInt .i8) w (blo w.heap.size) A' n' cap' l') :
  Calls Tryz.prog 88 #[.slice A n cap,.slice A' n' cap'] w fun e w'=>e=.returned (.bool (decide (l=l')))∧Below w.heap.size w w':=by
 have hm:n≤9223372036854775807:=Nat.le_trans h.cap_le h.max_le
 have hm':n'≤9223372036854775807:=Nat.le_trans h'.cap_le h'.max_le
 have H:=zH h
 have H':=zH h'
 clear h h'
 by_cases hn:n=n'
 rotate_left
 ·have d1:((n:Int) != (n':Int))=true:=by rw [bne_iff_ne];omega
  have d2:decide (l=l')=false:=by rw [decide_eq_false_iff_not];rintro rfl;exact hn (H.out.n_eq.symm.trans H'.out.n_eq)
  rw [d2]
  clear hn
  go_enter Tryz.func88,Tryz.ntmps88
  go_wp2_with fail
  go_ret
  exact ⟨rfl,Below.refl _ _⟩
 subst hn
 have d1:((n:Int) != (n:Int))=false:=by simp
 go_enter Tryz.func88,Tryz.ntmps88
 go_wp2_with fail
 go_loopw [13] (fun i wr=>∃ k:Nat,k≤n∧i=.int .i64 k∧wr.heap=w.heap∧Below w.heap.size w wr∧∀ j,j < k → l.getD j 0=l'.getD j 0) (fun i _=>n - (intOf i).toNat)
 case atStart=>exact ⟨0,Nat.zero_le _,rfl,rfl,Below.refl _ _,fun j hj=>absurd hj (Nat.not_lt_zero _)⟩
 case round =>
  obtain ⟨k,hk,rfl,hh,hb,hq⟩:=hrel
  have HQ:=zH hq
  clear hq
  by_cases hlt:k < n
  ·obtain ⟨b,off,rfl,_,_,c0,i0⟩:=(H.out.below hb (fun _ h=>h)).int_at k hlt
   obtain ⟨b',off',rfl,_,_,c1,i1⟩:=(H'.out.below hb (fun _ h=>h)).int_at k hlt
   have HH:=zH hh
   clear hh i0 i1
   by_cases he:l.getD k 0=l'.getD k 0
   ·rw [← he] at c1
    generalize hx:l.getD k 0=x at *
    have d3:(x != x)=false:=by simp
    have HX:=zH hx
    have HE:=zH he
    clear hx he
    go_wp2_with fail
    go_quiet (fail)
    go_wp2_with fail
    refine ⟨⟨k+1,by omega,by go_num,HH.out,below_drewN hb _,fun j hj=>?_⟩,by simp [intOf];omega⟩
    by_cases hjk:j < k
    ·exact HQ.out j hjk
    ·obtain rfl:j=k:=by omega
     rw [HX.out,HE.out]
   ·have d2:decide (l=l')=false:=by rw [decide_eq_false_iff_not];rintro rfl;exact he rfl
    have d3:(l.getD k 0 != l'.getD k 0)=true:=by rw [bne_iff_ne];exact he
    generalize l.getD k 0=x at *
    generalize l'.getD k 0=y at *
    have D2:=zH d2
    clear d2 he
    go_wp2_with fail
    go_quiet (fail)
    go_wp2_with fail
    go_ret
    exact ⟨by rw [D2.out];rfl,below_drewN hb _⟩
  ·obtain rfl:k=n:=by omega
   go_wp2_with fail
   go_ret
   exact ⟨by rw [decide_eq_true (list_eq_getD H.out.n_eq H'.out.n_eq HQ.out)];rfl,hb⟩
end Go.Proofs.YtlbkekabmpienaaGreat
namespace Go.Proofs.YtlbkekabmpienaaGreat
set_option linter.unusedVariables false
set_option linter.unusedSimpArgs false
open Go.RowKit Go.ChangeShapes Go.WideShapes
set_option maxRecDepth 100000
theorem equal32_any (A A':Option Addr) (n cap n' cap':Nat) (l l':List Int) (w:World) (h:Sl (tInt .i32) w (blo w.heap.size) A n cap l) (h':Sl (tInt .i32) w (blo w.heap.size) A' n' cap' l') :
  Calls Tryz.prog 89 #[.slice A n cap,.slice A' n' cap'] w fun e w'=>e=.returned (.bool (decide (l=l')))∧Below w.heap.size w w':=by
 have hm:n≤9223372036854775807:=Nat.le_trans h.cap_le h.max_le
 have hm':n'≤9223372036854775807:=Nat.le_trans h'.cap_le h'.max_le
 have H:=zH h
 have H':=zH h'
 clear h h'
 by_cases hn:n=n'
 rotate_left
 ·have d1:((n:Int) != (n':Int))=true:=by rw [bne_iff_ne];omega
  have d2:decide (l=l')=false:=by rw [decide_eq_false_iff_not];rintro rfl;exact hn (H.out.n_eq.symm.trans H'.out.n_eq)
  rw [d2]
  clear hn
  go_enter Tryz.func89,Tryz.ntmps89
  go_wp2_with fail
  go_ret
  exact ⟨rfl,Below.refl _ _⟩
 subst hn
 have d1:((n:Int) != (n:Int))=false:=by simp
 go_enter Tryz.func89,Tryz.ntmps89
 go_wp2_with fail
 go_loopw [13] (fun i wr=>∃ k:Nat,k≤n∧i=.int .i64 k∧wr.heap=w.heap∧Below w.heap.size w wr∧∀ j,j < k → l.getD j 0=l'.getD j 0) (fun i _=>n - (intOf i).toNat)
 case atStart=>exact ⟨0,Nat.zero_le _,rfl,rfl,Below.refl _ _,fun j hj=>absurd hj (Nat.not_lt_zero _)⟩
 case round =>
  obtain ⟨k,hk,rfl,hh,hb,hq⟩:=hrel
  have HQ:=zH hq
  clear hq
  by_cases hlt:k < n
  ·obtain ⟨b,off,rfl,_,_,c0,i0⟩:=(H.out.below hb (fun _ h=>h)).int_at k hlt
   obtain ⟨b',off',rfl,_,_,c1,i1⟩:=(H'.out.below hb (fun _ h=>h)).int_at k hlt
   have HH:=zH hh
   clear hh i0 i1
   by_cases he:l.getD k 0=l'.getD k 0
   ·rw [← he] at c1
    generalize hx:l.getD k 0=x at *
    have d3:(x != x)=false:=by simp
    have HX:=zH hx
    have HE:=zH he
    clear hx he
    go_wp2_with fail
    go_quiet (fail)
    go_wp2_with fail
    refine ⟨⟨k+1,by omega,by go_num,HH.out,below_drewN hb _,fun j hj=>?_⟩,by simp [intOf];omega⟩
    by_cases hjk:j < k
    ·exact HQ.out j hjk
    ·obtain rfl:j=k:=by omega
     rw [HX.out,HE.out]
   ·have d2:decide (l=l')=false:=by rw [decide_eq_false_iff_not];rintro rfl;exact he rfl
    have d3:(l.getD k 0 != l'.getD k 0)=true:=by rw [bne_iff_ne];exact he
    generalize l.getD k 0=x at *
    generalize l'.getD k 0=y at *
    have D2:=zH d2
    clear d2 he
    go_wp2_with fail
    go_quiet (fail)
    go_wp2_with fail
    go_ret
    exact ⟨by rw [D2.out];rfl,below_drewN hb _⟩
  ·obtain rfl:k=n:=by omega
   go_wp2_with fail
   go_ret
   exact ⟨by rw [decide_eq_true (list_eq_getD H.out.n_eq H'.out.n_eq HQ.out)];rfl,hb⟩
end Go.Proofs.YtlbkekabmpienaaGreat
