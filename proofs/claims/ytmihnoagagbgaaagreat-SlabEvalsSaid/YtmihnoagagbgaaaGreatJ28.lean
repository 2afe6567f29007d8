/-
  Rows multiplied with rows, tile by tile (layer 12: gemm.Mul).
-/
import Derived.Test.YtmihnoagagbgaaaGreatJ27
set_option linter.unusedVariables false
set_option linter.unusedSimpArgs false
set_option maxRecDepth 100000
set_option maxHeartbeats 16000000
namespace Go.Proofs.YtmihnoagagbgaaaGreat
open Go.RowKit Go.ChangeShapes Go.WideShapes Fx Tryz
set_option maxRecDepth 100000
set_option maxHeartbeats 16000000
def dN (M C r c m i:Nat):Nat:=if i / C < r then M else if i / C < r+8 then (if i % C < c then M else if i % C < c+8 then m else 0) else 0
theorem sd (M C R r c m r1 c1 m1 i:Nat) (hr:r1=min (r+8) R) (hc:c1=min (c+8) C) (hi:i / C < R) (hC:i % C < C):dp C r c c1 m1 r1 c (dN M C r c m) i=dN M C r c m1 i:=by
 unfold dp dN
 by_cases a:i / C < r
 ·rw [if_neg oM,if_pos a,if_pos a]
 ·by_cases b:i / C < r+8
  ·rw [if_neg a,if_pos b,if_neg a,if_pos b]
   by_cases d:i % C < c
   ·rw [if_neg oM,if_pos d,if_pos d]
   ·by_cases e:i % C < c+8
    ·rw [if_pos oM,if_neg d,if_pos e]
    ·rw [if_neg oM,if_neg d,if_neg e,if_neg d,if_neg e]
  ·rw [if_neg oM,if_neg a,if_neg b,if_neg a,if_neg b]
theorem sb (M C r c i:Nat):dN M C r c M i=dN M C r (c+8) 0 i:=by
 unfold dN
 generalize i / C=a at *
 generalize i % C=b at *
 repeat' split
 all_goals omega
theorem se (M C r c i:Nat) (hC:i % C < c+8):dN M C r c M i=dN M C (r+8) 0 0 i:=by
 unfold dN
 generalize i / C=a at *
 generalize i % C=b at *
 repeat' split
 all_goals omega
theorem sa (M C r c i:Nat) (hr:i / C < r+8) (hC:i % C < c+8):dN M C r c M i=M:=by
 unfold dN
 generalize i / C=a at *
 generalize i % C=b at *
 repeat' split
 all_goals omega
theorem qP (M C:Nat):dN M C 0 0 0=fun _=>0:=by
 funext i
 unfold dN
 generalize i / C=a at *
 generalize i % C=b at *
 repeat' split
 all_goals omega
def fS (R C M r c m:Nat):Nat:=(R - r)*((C+1)*(M+1))+(C - c)*(M+1)+(M - m)
theorem tI {R C M r c m m1:Nat} (h:m < m1) (h1:m1≤M):fS R C M r c m1 < fS R C M r c m:=by unfold fS;omega
theorem tH {R C M r c m c1:Nat} (h:c < c1) (h1:c1≤C):fS R C M r c1 0 < fS R C M r c m:=by
 unfold fS
 have:(C - c1+1)*(M+1)≤(C - c)*(M+1):=Nat.mul_le_mul_right _ oM
 rw [Nat.succ_mul] at this
 omega
theorem tJ {R C M r c m r1:Nat} (h:r < r1) (h1:r1≤R):fS R C M r1 0 0 < fS R C M r c m:=by
 unfold fS
 have:(R - r1+1)*((C+1)*(M+1))≤(R - r)*((C+1)*(M+1)):=Nat.mul_le_mul_right _ oM
 rw [Nat.succ_mul,Nat.succ_mul C] at this
 rw [Nat.sub_zero,Nat.sub_zero,Nat.succ_mul C]
 omega
def jk (w:World) (g i:Nat):Nat:=match w.cell? ⟨g,i,none⟩ with|some (.int _ z)=>z.toNat|_=>0
theorem iX {w:World} {g i n:Nat} (h:w.cell? ⟨g,i,none⟩=some (.int .i64 n)):jk w g i=n:=by unfold jk;rw [h];rfl
def sf (R C M g:Nat) (w:World):Nat:=fS R C M (jk w g 0) (jk w g 1) (jk w g 2)
theorem iD {R C M g r c m:Nat} {w:World} {e:TypeId} (h:Blk w g e (sN r c m)):sf R C M g w=fS R C M r c m:=by
 unfold sf
 rw [iX (h.cell 0),iX (h.cell 1),iX (h.cell 2)]
theorem fi {R C i N:Nat} (h:R*C=N) (hi:i < N):i / C < R∧i % C < C:=by
 have hC:0 < C:=by
  rcases Nat.eq_zero_or_pos C with e|e
  ·subst e;omega
  ·exact e
 exact ⟨by rw [Nat.div_lt_iff_lt_mul hC,h];exact hi,Nat.mod_lt _ hC⟩
theorem tp (A:QA) (na ca:Nat) (la:List Int) (B:QA) (nb cb:Nat) (lb:List Int) (R M C N:Nat) (w:World)
  (ha:Sl (aa .i16) w (blo w) A na ca la) (hb:xA w B nb cb lb) (hna:na=R*M) (hnb:nb=C*M) (hN:R*C=N) (bR:1≤R∧R≤16384) (bC:1≤C∧C≤16384) (bM:1≤M∧M≤16384) :
  Calls prog 156 #[.slice A na ca,.slice B nb cb,.int .i64 R,.int .i64 M,.int .i64 C] w
   fun e w'=>∃ q,e=.returned (.slice (some ⟨q,0,none⟩) N N)∧Own (aa .i32) w' (fun _=>False) w.heap.size 21 (.slice (some ⟨q,0,none⟩) N N) N ((List.range N).map fun i=>fu la lb M C i M)∧Below w w w':=by
 have HA:=zH ha
 have HB:=zH hb
 have NN:=zH hN
 have FR:=zW w
 obtain ⟨w1,yw1,BL,FR⟩:=nF FR (sN R M C) 3
 have MY:=zH (po (some ⟨w.heap.size,0,none⟩) 3 3 [(R:Int),(M:Int),(C:Int)] w1 (Sl.lit (cs:=(sN R M C)) [(R:Int),(M:Int),(C:Int)] BL.o.heap rfl (by intro x hx;simp at hx;rcases hx with rfl|rfl|rfl <;> rw [ah] <;> omega) (by show _ < _;have:=BL.o.lt;omega) rfl rfl (by show 3≤maxLen;decide)) oM (by intro i hi;match i,hi with|0,_=>simp;omega|1,_=>simp;omega|2,_=>simp;omega))
 have rmb:R*M≤16384*16384:=Nat.mul_le_mul bR.2 bM.2
 have cmb:C*M≤16384*16384:=Nat.mul_le_mul bC.2 bM.2
 have rcb:N≤16384*16384:=by rw [← hN];exact Nat.mul_le_mul bR.2 bC.2
 have e1:IntKind.i64.wrap ((R:Int)*(M:Int))=(na:Int):=by rw [hna,Int.natCast_mul];exact wI _ (by rw [← Int.natCast_mul];omega)
 have e2:IntKind.i64.wrap ((C:Int)*(M:Int))=(nb:Int):=by rw [hnb,Int.natCast_mul];exact wI _ (by rw [← Int.natCast_mul];omega)
 have e3:IntKind.i64.wrap ((R:Int)*(C:Int))=(N:Int):=by rw [← hN,Int.natCast_mul];exact wI _ (by rw [← Int.natCast_mul];omega)
 have NA:=zH hna
 have NB:=zH hnb
 clear ha hb hna hnb hN
 go_in
 go_wp2_with fail
 go_step3
 go_wp2_with (first|(go_at_call 176;refine MY.o.mono ?_;rintro e w9 ⟨rfl,rfl⟩)|(at_make;refine wpList_make (t:=aa .i32) (S:=fun _=>False) (base:=w.heap.size) rfl _ _ rfl dK .i64 .i64 _ _ N rfl rfl rfl rfl ?_ ?_ ?_ 0 ⟨rfl,by decide⟩ (fun _ h=>h.elim) ?_;rotate_right;intro w3 hown hg))
 rotate_left
 ·omega
 ·unfold maxLen;omega
 ·rw [← yw1];simp
 have kb:Below w1 w1 w3:=(qB _ _).grown hg (lR _) sM
 have ON:=zH hown
 have l13:=kb.size
 have l1:=FR.o.size
 have QB:=zH (show w.heap.size≤w1.heap.size∧w1.heap.size < w3.heap.size from ⟨l1,(hown.lt _ rfl).2⟩)
 replace FR:=zF kb FR
 clear kb
 clear hown hg yw1 BL MY
 go_wp2_with fail
 obtain ⟨w4,yw4,BP,FR⟩:=nF FR #[.slice A na ca,.slice B nb cb,.int .i64 M,.int .i64 C,.slice (some ⟨w1.heap.size,0,none⟩) N N] 228
 replace ON:=zH (ON.o.below (show Below w3 w3 w4 by rw [← yw4];exact (qB _ _).alloc (lR _) _) (lR _) (fun _ h=>h.elim))
 have l4:w4.heap.size=w3.heap.size+1:=by rw [← yw4];simp
 obtain ⟨w5,yw5,BT,yk5⟩:=nB w4 (sN 0 0 0) 88
 obtain ⟨FR,BP⟩:=uz2 yk5 FR BP
 clear yk5
 replace ON:=zH (ON.o.below (show Below w4 w4 w5 by rw [← yw5];exact (qB _ _).alloc (lR _) _) (lR _) (fun _ h=>h.elim))
 rw [yw4,← l4,yw5]
 have QB2:=zH (show w.heap.size≤w3.heap.size∧w3.heap.size < w4.heap.size from ⟨by omega,by omega⟩)
 clear yw4 yw5 l4 l13 l1
 replace ON:=zH (show Own (aa .i32) w5 (fun _=>False) w.heap.size 21 (.slice (some ⟨w1.heap.size,0,none⟩) N N) N (dW la lb M C N (dN M C 0 0 0)) by rw [qP,qN];exact ON.o)
 go_step3
 go_wp2_with fail
 clear e1 e2 e3
 go_loopw [] (fun wr=>∃ r c m:Nat,r < R∧c < C∧m < M∧Far w wr∧Blk wr w3.heap.size 228 #[.slice A na ca,.slice B nb cb,.int .i64 M,.int .i64 C,.slice (some ⟨w1.heap.size,0,none⟩) N N]∧Blk wr w4.heap.size 88 (sN r c m)∧Own (aa .i32) wr (fun _=>False) w.heap.size 21 (.slice (some ⟨w1.heap.size,0,none⟩) N N) N (dW la lb M C N (dN M C r c m))) (sf R C M w4.heap.size)
 case atStart=>exact ⟨0,0,0,bR.1,bC.1,bM.1,FR.o,BP.o,BT.o,ON.o⟩
 case round =>
  obtain ⟨r,c,m,hr,hc,hm,f0,f1,f2,f3⟩:=hrel
  clear FR BP BT ON
  have FR:=zH f0
  have BP:=zH f1
  have BT:=zH f2
  have ON:=zH f3
  clear f0 f1 f2 f3
  have BT0:=BT
  obtain ⟨x0,x1,x2⟩:=uc3 BT 0 1 2
  simp only [gX] at x0 x1 x2
  have g1:IntKind.i64.wrap ((r:Int)+8)=(r:Int)+8:=wJ
  have g2:IntKind.i64.wrap ((c:Int)+8)=(c:Int)+8:=wJ
  have g3:IntKind.i64.wrap ((m:Int)+8)=(m:Int)+8:=wJ
  obtain ⟨r1,hr1⟩:∃ x,min (r+8) R=x:=⟨_,rfl⟩
  obtain ⟨c1,hc1⟩:∃ x,min (c+8) C=x:=⟨_,rfl⟩
  obtain ⟨m1,hm1⟩:∃ x,min (m+8) M=x:=⟨_,rfl⟩
  have j1:(if (R:Int) < (r:Int)+8 then (R:Int) else (r:Int)+8)=(r1:Int):=by split <;> omega
  have j2:(if (C:Int) < (c:Int)+8 then (C:Int) else (c:Int)+8)=(c1:Int):=by split <;> omega
  have j3:(if (M:Int) < (m:Int)+8 then (M:Int) else (m:Int)+8)=(m1:Int):=by split <;> omega
  have j4:min ((r:Int)+8) (R:Int)=(r1:Int):=oM
  have j5:min ((c:Int)+8) (C:Int)=(c1:Int):=oM
  have j6:min ((m:Int)+8) (M:Int)=(m1:Int):=oM
  have HR:=zH hr1
  have HC:=zH hc1
  have HM:=zH hm1
  clear hr1 hc1 hm1
  obtain ⟨w6,yw6,BE,yk6⟩:=nB wr (sN r1 c1 m1) 88
  obtain ⟨FR,BP,BT⟩:=uz3 yk6 FR BP BT
  clear yk6
  have O6:=zH (ON.o.below (show Below wr wr w6 by rw [← yw6];exact (qB _ _).alloc (lR _) _) (lR _) (fun _ h=>h.elim))
  have PA:=zH (sH w3.heap.size w1.heap.size w.heap.size w.heap.size R M C N r c m r1 c1 m1 A na ca la B nb cb lb (dN M C r c m) w6 ((Old.now HA.o).fut FR.u).out ((Old.now HB.o).fut FR.u).out (lR _) NA.o NB.o NN.o (by have:=HR.o;omega) (by have:=HC.o;omega) (by have:=HM.o;omega) bR.2 bC.2 bM.2 BP.o (by have:=QB.o;omega) O6.o (fun i hi h1 h2 h3 h4=>by unfold dN;have:=HR.o;have:=HC.o;rw [if_neg oM,if_pos oM,if_neg oM,if_pos oM]))
  rw [gK (fun i hi=>by obtain ⟨z1,z2⟩:=fi NN.o hi;exact sd M C R r c m r1 c1 m1 i HR.o.symm HC.o.symm z1 z2)] at PA
  go_wp2_with (first|(refine lGJ19 BT.o ?_)|(refine lGJ19 BE.o ?_))
  refine (PA.o).mono ?_
  rintro e w7 ⟨rfl,own7,g7⟩
  have O7:=zH own7
  have qb:=QB.o
  have qb2:=QB2.o
  have F7:=zH (FR.o.row g7 (fun k h=>by have:=sI h;omega))
  have P7:=zH (BP.o.rowR g7 (fun e=>by have:=sI e;omega))
  have T7:=zH (BT.o.rowR g7 (fun e=>by have:=sI e;omega))
  have lq:w1.heap.size < wr.heap.size:=(ON.o.lt _ rfl).2
  have MW:=zH (iD (R:=R) (C:=C) (M:=M) BT0.o)
  have E7:=zH (BE.o.rowR g7 (fun e=>by have:=sI e;omega))
  have x0:=T7.o.cell 0
  obtain ⟨y0,y1,y2⟩:=uc3 E7 0 1 2
  simp only [gX] at x0 y0 y1 y2
  clear own7 g7 yw6 j1 j2 j3 qb qb2 lq FR BP BT BT0 ON O6 PA BE
  by_cases a1:m1 < M
  ·have b1:(m1:Int) < (M:Int):=oM
   go_wp2_with (refine wpList_store_one rfl 3 (.tmp 72) (.tmp 71) rfl w4.heap.size 2 (.int .i64 m1) rfl rfl rfl rfl _ (sN r c m) (sN r c m1) T7.o sM kM rfl ?_;intro w8 B8 g8)
   have F8:=F7.o.away g8 (by have:=QB2.o;omega)
   have P8:=P7.o.rowR g8 (fun e=>by have:=sI e;have:=QB2.o;omega)
   have O8:=O7.o.flat g8 (.inr (by simp [Value.ownBlock];have:=QB2.o;have:=QB.o;omega)) (fun _ h=>h)
   refine ⟨?_,?_⟩
   ·(repeat apply Exists.intro)
    refine ⟨?_,rfl⟩
    exact ⟨r,c,m1,hr,hc,a1,F8,P8,B8,O8⟩
   ·rw [iD (r:=r) (c:=c) (m:=m1) B8,MW.o]
    exact tI (by have:=HM.o;omega) oM
  ·obtain rfl:m1=M:=by have:=HM.o;omega
   by_cases a2:c1 < C
   ·have b2:(c1:Int) < (C:Int):=oM
    have hc8:c1=c+8:=by have:=HC.o;omega
    rw [gK (fun i _=>sb m1 C r c i),← hc8] at O7
    have HC8:=zH hc8
    clear hc8
    go_wp2_with (refine sGJ19 (sN r c1 0) T7.o ?_;intro w8 B8 g8)
    have F8:=F7.o.away g8 (by have:=QB2.o;omega)
    have P8:=P7.o.rowR g8 (fun e=>by have:=sI e;have:=QB2.o;omega)
    have O8:=O7.o.flat g8 (.inr (by simp [Value.ownBlock];have:=QB2.o;have:=QB.o;omega)) (fun _ h=>h)
    refine ⟨?_,?_⟩
    ·(repeat apply Exists.intro)
     refine ⟨?_,rfl⟩
     exact ⟨r,c1,0,hr,a2,by omega,F8,P8,B8,O8⟩
    ·rw [iD (r:=r) (c:=c1) (m:=0) B8,MW.o]
     exact tH (by have:=HC8.o;omega) oM
   ·obtain rfl:c1=C:=by have:=HC.o;omega
    by_cases a3:r1 < R
    ·have b3:(r1:Int) < (R:Int):=oM
     have hr8:r1=r+8:=by have:=HR.o;omega
     rw [gK (fun i hi=>se m1 c1 r c i (by have:=(fi NN.o hi).2;have:=HC.o;omega)),← hr8] at O7
     have HR8:=zH hr8
     clear hr8
     go_wp2_with (refine sGJ19 (sN r1 0 0) T7.o ?_;intro w8 B8 g8)
     have F8:=F7.o.away g8 (by have:=QB2.o;omega)
     have P8:=P7.o.rowR g8 (fun e=>by have:=sI e;have:=QB2.o;omega)
     have O8:=O7.o.flat g8 (.inr (by simp [Value.ownBlock];have:=QB2.o;have:=QB.o;omega)) (fun _ h=>h)
     refine ⟨?_,?_⟩
     ·(repeat apply Exists.intro)
      refine ⟨?_,rfl⟩
      exact ⟨r1,0,0,a3,by omega,by omega,F8,P8,B8,O8⟩
     ·rw [iD (r:=r1) (c:=0) (m:=0) B8,MW.o]
      exact tJ (by have:=HR8.o;omega) oM
    ·obtain rfl:r1=R:=by have:=HR.o;omega
     rw [gK (fun i hi=>sa m1 c1 r c i (by have:=(fi NN.o hi).1;have:=HR.o;omega) (by have:=(fi NN.o hi).2;have:=HC.o;omega))] at O7
     have p4:=P7.o.cell 4
     simp only [gX] at p4
     go_wp2_with fail
     (try rw [Exit.noGoto_ret])
     go_ret
     exact ⟨_,rfl,O7.o,F7.o.out⟩
end Go.Proofs.YtmihnoagagbgaaaGreat
