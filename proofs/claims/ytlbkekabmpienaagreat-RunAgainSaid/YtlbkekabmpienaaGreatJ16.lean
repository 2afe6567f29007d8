/-
  Windows as rows (layer 12): patch.Of's function.
  Windows as rows (layer 12): slide.each, by which patch.Of's rows are filled.
-/
import Derived.Test.YtlbkekabmpienaaGreatJ12
import Derived.Test.YtlbkekabmpienaaGreatJ15
import Derived.Test.YtlbkekabmpienaaGreatJ00
import Derived.Test.YtlbkekabmpienaaGreatJ06
namespace Go.Proofs.YtlbkekabmpienaaGreat
set_option linter.unusedVariables false
set_option linter.unusedSimpArgs false
open Go.RowKit Go.ChangeShapes Go.WideShapes Fx
set_option maxRecDepth 100000
set_option maxHeartbeats 4000000
/-- What is put into a row's place, or nothing. -/
theorem patchDo_any (A:Option Addr) (n cap:Nat) (l:List Int) (d:Node) (W:Option Addr) (nw cw:Nat) (B:Option Addr) (nb cb:Nat) (u0 u1 u2:Value) (gt gn gr q N m base:Nat) (L:List Int) (h v c many wide:Int) (row:Nat) (at_:Int) (ok:Bool) (w:World)
  (hl:Sl (tInt .i8) w (blo m) A n cap l) (hz:InK .i8 d.za)
  (bt:Blk w gt 32 #[.int .i64 h,.int .i64 v,.int .i64 c,.slice A n cap]) (bn:Blk w gn 28 #[.int .i64 d.kind,.int .i64 d.a,.int .i64 d.b,.int .i64 d.k,.int .i64 d.s,.int .i64 d.p,.int .i64 d.out,.int .i8 d.za,.int .i8 d.zb,.slice W nw cw,.slice B nb cb,.int .i32 d.qm,.int .i64 d.qs,.int .i8 d.qz,.int .i32 d.rm,.int .i64 d.rs,.int .i8 d.rz,.int .i8 d.lo,.int .i8 d.hi]) (br:Blk w gr 104 #[.int .i64 many,.int .i64 wide,.slice (some ⟨q,0,none⟩) N N])
  (hown:Own (tInt .i16) w (fun _=>False) base 153 (.slice (some ⟨q,0,none⟩) N N) N L) (hrow:row < N) (hat:ok=true → ∃ i:Nat,at_=i∧i < n) (hN:N≤100000000) (hn:n≤1024) :
  Calls Tryz.prog 119 #[.int .i64 row,.int .i64 at_,.bool ok,.pointer (some ⟨gt,0,none⟩),.pointer (some ⟨gn,0,none⟩),.pointer (some ⟨gr,0,none⟩)] w fun e w'=>e=.returned (.tuple #[])∧Own (tInt .i16) w' (fun _=>False) base 153 (.slice (some ⟨q,0,none⟩) N N) N (if ok=true then L.set row (l.getD at_.toNat 0 - d.za) else L)∧w.grownBy w' (some q):=by
 cases ok with
 | false =>
  go_enter Tryz.func119,Tryz.ntmps119
  go_wp2_with fail
  ((try simp only [Exit.inBlock,Exit.then]);refine bodyPost_end (results_none rfl _ _ _) rfl ?_)
  exact ⟨rfl,hown,grown_self _ _⟩
 | true =>
  obtain ⟨i,rfl,hi⟩:=hat rfl
  rw [if_pos rfl,Int.toNat_natCast]
  obtain ⟨bz,oz,rfl,-,-,cx,ix⟩:=hl.int_at i hi
  obtain ⟨x,hx⟩:∃ x,l.getD i 0=x:=⟨_,rfl⟩
  rw [hx] at cx ix ⊢
  obtain ⟨z,hzz⟩:∃ z,d.za=z:=⟨_,rfl⟩
  have n7:=bn.cell 7
  have t3:=bt.cell 3
  have r2:=br.cell 2
  simp only [gX] at n7 t3 r2
  rw [hzz] at n7 hz ⊢
  rw [inK_i8] at ix hz
  obtain ⟨i1,i2⟩:=ix
  obtain ⟨z1,z2⟩:=hz
  have g6:IntKind.i16.wrap x=x:=by rw [wrap_i16];omega
  have g7:IntKind.i16.wrap z=z:=by rw [wrap_i16];omega
  have g8:IntKind.i16.wrap (x - z)=x - z:=by rw [wrap_i16];omega
  obtain ⟨x0,u0',-,-,c5,c6,c7,-⟩:=hown.cell rfl row hrow
  have ON:=zH hown
  clear hx hzz hown bt bn br hl hat
  go_enter Tryz.func119,Tryz.ntmps119
  go_wp2_with fail
  go_still_tail 13,(by kernel_rfl)
  change wpList _ _ _ _ _ w.drew
  have O2:=zH (ON.out.heap (w':=w.drew) rfl)
  have G2:=zH (grown_drew w (some q))
  clear c5 c6 c7 cx n7 t3 r2 ON
  generalize w.drew=wy at *
  obtain ⟨x9,u9,-,-,c5,c6,c7,-⟩:=O2.out.cell rfl row hrow
  go_wp2_with fail
  ((try simp only [Exit.inBlock,Exit.then]);refine bodyPost_end (results_none rfl _ _ _) rfl ?_)
  obtain ⟨o3,g3⟩:=O2.out.set1 rfl row (.int .i16 (x - z)) (x - z) ⟨rfl,by simp only [InK,IntKind.min,IntKind.max,IntKind.signed,IntKind.bits];simp;omega⟩ (fun _ h=>h.elim)
  exact ⟨rfl,o3,grown_tr G2.out g3⟩
end Go.Proofs.YtlbkekabmpienaaGreat
namespace Go.Proofs.YtlbkekabmpienaaGreat
set_option linter.unusedVariables false
set_option linter.unusedSimpArgs false
open Go.RowKit Go.ChangeShapes Go.WideShapes Fx
set_option maxRecDepth 100000
set_option maxHeartbeats 8000000
/-- A number of the rows. -/
def patchF (H V C:Nat) (l:List Int) (za:Int) (K S P Wo:Nat) (r:Nat):Int :=
 px H V C l za ((r / (K*K*C) / Wo*S+r % (K*K*C) / C / K:Nat) - (P:Int)) ((r / (K*K*C) % Wo*S+r % (K*K*C) / C % K:Nat) - (P:Int)) (r % (K*K*C) % C)
theorem below_grown {w w':World} {r:Option Nat} (h:Below w.heap.size w w'):w.grownBy w' r:=⟨h.os,h.tape,h.output,h.size,fun k hk _=>h.block k hk⟩
theorem filling_step {f:Nat → Int} {n k:Nat} (h:k < n) (hf:f k=0):filling 0 f n k=filling 0 f n (k+1):=by
 have e:=filling_set 0 f n k h
 rw [← e,hf]
 unfold filling
 apply List.ext_getElem (by simp)
 intro i h1 h2
 rw [List.getElem_set]
 split
 ·rename_i e;subst e
  rw [List.getElem_append_right (by simp)]
  simp
 ·rfl
theorem each_any (H V C:Nat) (A:Option Addr) (n cap:Nat) (l:List Int) (d:Node) (W:Option Addr) (nw cw:Nat) (B:Option Addr) (nb cb:Nat) (Ho Wo K S P gt gn gr q N m base M WD:Nat) (many wide:Int) (w:World)
  (hl:Sl (tInt .i8) w (blo m) A n cap l) (hm:m≤base) (hn:n=H*V*C) (hn2:n≤1024) (hz:InK .i8 d.za) (hk:d.k=K) (hs:d.s=S) (hp:d.p=P) (k1:1≤K∧K≤5) (s1:S≤4) (p1:P≤4)
  (h1:1≤H∧H≤16) (v1:1≤V∧V≤16) (c1:1≤C∧C≤1024) (he:decide (0 < elems H V C)=true) (ho1:1≤Ho∧Ho≤16) (w1':1≤Wo∧Wo≤16) (hM:Ho*Wo=M) (hWD:K*K*C=WD) (hN:M*WD=N)
  (bt:Blk w gt 32 #[.int .i64 H,.int .i64 V,.int .i64 C,.slice A n cap]) (bn:Blk w gn 28 #[.int .i64 d.kind,.int .i64 d.a,.int .i64 d.b,.int .i64 d.k,.int .i64 d.s,.int .i64 d.p,.int .i64 d.out,.int .i8 d.za,.int .i8 d.zb,.slice W nw cw,.slice B nb cb,.int .i32 d.qm,.int .i64 d.qs,.int .i8 d.qz,.int .i32 d.rm,.int .i64 d.rs,.int .i8 d.rz,.int .i8 d.lo,.int .i8 d.hi]) (br:Blk w gr 104 #[.int .i64 many,.int .i64 wide,.slice (some ⟨q,0,none⟩) N N]) (qt:gt ≠ q) (qn:gn ≠ q) (qr:gr ≠ q)
  (hown:Own (tInt .i16) w (fun _=>False) base 153 (.slice (some ⟨q,0,none⟩) N N) N (List.replicate N 0)) :
  Calls Tryz.prog 117 #[.agg #[.int .i64 H,.int .i64 V,.int .i64 C,.int .i64 d.kind,.int .i64 d.a,.int .i64 d.b,.int .i64 d.k,.int .i64 d.s,.int .i64 d.p,.int .i64 d.out,.int .i8 d.za,.int .i8 d.zb,.slice W nw cw,.slice B nb cb,.int .i32 d.qm,.int .i64 d.qs,.int .i8 d.qz,.int .i32 d.rm,.int .i64 d.rs,.int .i8 d.rz,.int .i8 d.lo,.int .i8 d.hi,.int .i64 Ho,.int .i64 Wo,.int .i64 1],.func (.func 118) #[.agg #[.int .i64 H,.int .i64 V,.int .i64 C,.int .i64 d.kind,.int .i64 d.a,.int .i64 d.b,.int .i64 d.k,.int .i64 d.s,.int .i64 d.p,.int .i64 d.out,.int .i8 d.za,.int .i8 d.zb,.slice W nw cw,.slice B nb cb,.int .i32 d.qm,.int .i64 d.qs,.int .i8 d.qz,.int .i32 d.rm,.int .i64 d.rs,.int .i8 d.rz,.int .i8 d.lo,.int .i8 d.hi,.int .i64 Ho,.int .i64 Wo,.int .i64 1]] #[],.func (.func 119) #[] #[.pointer (some ⟨gt,0,none⟩),.pointer (some ⟨gn,0,none⟩),.pointer (some ⟨gr,0,none⟩)]] w
   fun e w'=>e=.returned (.tuple #[])∧Own (tInt .i16) w' (fun _=>False) base 153 (.slice (some ⟨q,0,none⟩) N N) N ((List.range N).map (patchF H V C l d.za K S P Wo))∧w.grownBy w' (some q):=by
 have hMb:M≤256:=by rw [← hM];exact Nat.mul_le_mul ho1.2 w1'.2
 have hWb:WD≤25600:=by rw [← hWD];exact Nat.mul_le_mul (Nat.mul_le_mul k1.2 k1.2) c1.2
 have hNb:N≤256*25600:=by rw [← hN];exact Nat.mul_le_mul hMb hWb
 have WI:=zH (fun w=>wide_any H V C d W nw cw B nb cb Ho Wo 1 K w hk k1.2 c1.2)
 rw [hWD] at WI
 have EL:=zH (fun w=>elems_any (Ho:Int) (1:Int) (Wo:Int) w (by rw [inK_i64];omega) (by rw [inK_i64];omega) (by rw [inK_i64];omega))
 have hel:elems (Ho:Int) (Wo:Int) (1:Int)=(M:Int):=by
  rw [elems_iff,if_pos ⟨by omega,by omega,by omega,by omega,by omega,by omega,by rw [Int.mul_one,← Int.natCast_mul,hM];omega⟩,Int.mul_one,← Int.natCast_mul,hM]
 rw [hel] at EL
 have PL:=zH (fun (i k:Nat) (hi:i≤1024) (hkk:k≤25600) w=>place_any H V C d W nw cw B nb cb Ho Wo 1 K S P i k w hk hs hp k1 s1 p1 h1 v1 c1 he w1' hi hkk)
 have HL:=zH hl
 have HZ:=zH hz
 have BT:=zH bt
 have BN:=zH bn
 have BR:=zH br
 have NE:=zH hn
 have QQ:=zH (And.intro qt (And.intro qn qr))
 have hq:=hown.lt _ rfl
 rw [← filling_zero 0 (patchF H V C l d.za K S P Wo) N] at hown
 obtain ⟨w1,hw_w1,BS,k_w1⟩:=nB w #[.int .i64 H,.int .i64 V,.int .i64 C,.int .i64 d.kind,.int .i64 d.a,.int .i64 d.b,.int .i64 d.k,.int .i64 d.s,.int .i64 d.p,.int .i64 d.out,.int .i8 d.za,.int .i8 d.zb,.slice W nw cw,.slice B nb cb,.int .i32 d.qm,.int .i64 d.qs,.int .i8 d.qz,.int .i32 d.rm,.int .i64 d.rs,.int .i8 d.rz,.int .i8 d.lo,.int .i8 d.hi,.int .i64 Ho,.int .i64 Wo,.int .i64 1] 147
 have GR:=zH (below_grown (r:=some q) k_w1)
 have ON:=zH (hown.below k_w1 (Nat.le_refl _) (fun _ h=>h.elim))
 have QB:=zH (show q < w.heap.size from hq.2)
 clear hl hz bt bn br hn qt qn qr hown hq hel he hk hs hp k_w1
 go_enter Tryz.func117,Tryz.ntmps117
 go_wp2_with (first|(refine lB 147 (.tmp 3) w.heap.size BS.out Tryz.underlying147 ?_)|(go_at_call 116;refine (WI.out _).mono ?_;rintro e w2 ⟨rfl,hb⟩;replace BS:=zH (BS.out.fut hb);replace GR:=zH (grown_tr GR.out (below_grown hb));replace ON:=zH (ON.out.below hb (Nat.le_refl _) (fun _ h=>h.elim));clear hb hw_w1)|(refine wpList_load_blk rfl 30 (.tmp 13) rfl w.heap.size 22 rfl _ #[.int .i64 H,.int .i64 V,.int .i64 C,.int .i64 d.kind,.int .i64 d.a,.int .i64 d.b,.int .i64 d.k,.int .i64 d.s,.int .i64 d.p,.int .i64 d.out,.int .i8 d.za,.int .i8 d.zb,.slice W nw cw,.slice B nb cb,.int .i32 d.qm,.int .i64 d.qs,.int .i8 d.qz,.int .i32 d.rm,.int .i64 d.rs,.int .i8 d.rz,.int .i8 d.lo,.int .i8 d.hi,.int .i64 Ho,.int .i64 Wo,.int .i64 1] #[.int .i64 Ho,.int .i64 Wo,.int .i64 1] _ BS.out Tryz.underlying30 rfl (by kernel_rfl) rfl ?_)|(go_at_call 51;refine (EL.out _).mono ?_;rintro e w3 ⟨rfl,hb⟩;replace BS:=zH (BS.out.fut hb);replace GR:=zH (grown_tr GR.out (below_grown hb));replace ON:=zH (ON.out.below hb (Nat.le_refl _) (fun _ h=>h.elim));clear hb))
 go_loopw [16] (fun ii wr=>∃ i:Nat,i≤M∧ii=.int .i64 i∧w.grownBy wr (some q)∧Blk wr w.heap.size 147 #[.int .i64 H,.int .i64 V,.int .i64 C,.int .i64 d.kind,.int .i64 d.a,.int .i64 d.b,.int .i64 d.k,.int .i64 d.s,.int .i64 d.p,.int .i64 d.out,.int .i8 d.za,.int .i8 d.zb,.slice W nw cw,.slice B nb cb,.int .i32 d.qm,.int .i64 d.qs,.int .i8 d.qz,.int .i32 d.rm,.int .i64 d.rs,.int .i8 d.rz,.int .i8 d.lo,.int .i8 d.hi,.int .i64 Ho,.int .i64 Wo,.int .i64 1]∧Own (tInt .i16) wr (fun _=>False) base 153 (.slice (some ⟨q,0,none⟩) N N) N (filling 0 (patchF H V C l d.za K S P Wo) N (i*WD))) (fun ii _=>M - (intOf ii).toNat)
 case atStart=>exact ⟨0,Nat.zero_le _,rfl,GR.out,BS.out,by rw [Nat.zero_mul];exact ON.out⟩
 case round =>
  obtain ⟨i,hi,rfl,f0,f1,f2⟩:=hrel
  clear GR BS ON
  have GR:=zH f0
  have BS:=zH f1
  have ON:=zH f2
  clear f0 f1 f2
  by_cases hlt:i < M
  ·have p1':(i:Int) < (M:Int):=by omega
   go_wp2_with fail
   go_loopw [20] (fun ii wr=>∃ k:Nat,k≤WD∧ii=.int .i64 k∧w.grownBy wr (some q)∧Blk wr w.heap.size 147 #[.int .i64 H,.int .i64 V,.int .i64 C,.int .i64 d.kind,.int .i64 d.a,.int .i64 d.b,.int .i64 d.k,.int .i64 d.s,.int .i64 d.p,.int .i64 d.out,.int .i8 d.za,.int .i8 d.zb,.slice W nw cw,.slice B nb cb,.int .i32 d.qm,.int .i64 d.qs,.int .i8 d.qz,.int .i32 d.rm,.int .i64 d.rs,.int .i8 d.rz,.int .i8 d.lo,.int .i8 d.hi,.int .i64 Ho,.int .i64 Wo,.int .i64 1]∧Own (tInt .i16) wr (fun _=>False) base 153 (.slice (some ⟨q,0,none⟩) N N) N (filling 0 (patchF H V C l d.za K S P Wo) N (i*WD+k))) (fun ii _=>WD - (intOf ii).toNat)
   case atStart=>exact ⟨0,Nat.zero_le _,rfl,GR.out,BS.out,ON.out⟩
   case round =>
    obtain ⟨k,hk,rfl,f0,f1,f2⟩:=hrel
    clear GR BS ON
    have GR:=zH f0
    have BS:=zH f1
    have ON:=zH f2
    clear f0 f1 f2
    by_cases hlk:k < WD
    ·have p2':(k:Int) < (WD:Int):=by omega
     go_wp2_with fail
     have hrow:i*WD+k < N:=by
      rw [← hN]
      have:(i+1)*WD≤M*WD:=Nat.mul_le_mul_right _ hlt
      rw [Nat.succ_mul] at this
      omega
     have dv:(i*WD+k) / WD=i:=by rw [Nat.mul_comm,Nat.mul_add_div (by omega),Nat.div_eq_of_lt hlk,Nat.add_zero]
     have md:(i*WD+k) % WD=k:=by rw [Nat.mul_comm,Nat.mul_add_mod,Nat.mod_eq_of_lt hlk]
     obtain ⟨r1,hr1⟩:∃ x,i*WD=x:=⟨_,rfl⟩
     have j1:(i:Int)*(WD:Int)=(r1:Int):=by rw [← hr1];simp
     have hr1b:r1≤256*25600:=by rw [← hr1];exact Nat.mul_le_mul (by omega) hWb
     have e1:IntKind.i64.wrap ((i:Int)*(WD:Int))=(r1:Int):=by rw [j1];exact IntWalk.i64_in _ (by omega)
     obtain ⟨row,hrw⟩:∃ x,i*WD+k=x:=⟨_,rfl⟩
     have e2:IntKind.i64.wrap ((r1:Int)+(k:Int))=(row:Int):=(IntWalk.i64_in _ (by omega)).trans (by omega)
     rw [hrw] at hrow dv md ON
     have HRW:=zH (show i*WD+(k+1)=row+1 by omega)
     obtain ⟨yy,hyy⟩:∃ x:Int,((i / Wo*S+k / C / K:Nat):Int) - (P:Int)=x:=⟨_,rfl⟩
     obtain ⟨xx,hxx⟩:∃ x:Int,((i % Wo*S+k / C % K:Nat):Int) - (P:Int)=x:=⟨_,rfl⟩
     have FV:=zH (show patchF H V C l d.za K S P Wo row=px H V C l d.za yy xx (k % C) by unfold patchF;rw [hWD,dv,md,hyy,hxx])
     have PC:=PL.out i k (by omega) (by omega) wr
     rw [hyy,hxx] at PC
     have FS:=zH (filling_set 0 (patchF H V C l d.za K S P Wo) N row hrow)
     have FN:=zH (fun hf=>filling_step (f:=patchF H V C l d.za K S P Wo) (n:=N) (k:=row) hrow hf)
     clear dv md hyy hxx hrw hr1 j1
     by_cases hin:inside H V yy xx
     ·have hin2:=hin
      unfold inside at hin2
      have HIX:=zH (show placeV V C yy xx (k % C) < n by rw [NE.out];exact idx_lt yy.toNat xx.toNat (k % C) H V C (by omega) (by omega) (Nat.mod_lt _ (by omega)))
      have PV:=zH (show patchF H V C l d.za K S P Wo row=l.getD (placeV V C yy xx (k % C)) 0 - d.za by rw [FV.out];unfold px;rw [if_pos hin2];rfl)
      clear hin2
      rw [if_pos hin,decide_eq_true hin] at PC
      refine PC.mono ?_
      rintro e w2 ⟨rfl,hb⟩
      have G2:=zH (grown_tr GR.out (below_grown hb))
      have B2:=zH (BS.out.fut hb)
      have O2:=zH (ON.out.below hb (Nat.le_refl _) (fun _ h=>h.elim))
      have lq:=(ON.out.lt _ rfl).1
      clear hb
      go_wp2_with fail
      refine (patchDo_any A n cap l d W nw cw B nb cb undef undef undef gt gn gr q N m base _ H V C many wide row _ true w2 (HL.out.away G2.out (by omega) (by have:=QB.out;omega)) HZ.out (BT.out.rowR G2.out (fun e=>QQ.out.1 (Option.some.inj e))) (BN.out.rowR G2.out (fun e=>QQ.out.2.1 (Option.some.inj e))) (BR.out.rowR G2.out (fun e=>QQ.out.2.2 (Option.some.inj e))) O2.out hrow (fun _=>⟨_,rfl,HIX.out⟩) (by omega) hn2).mono ?_
      rintro e w3 ⟨rfl,own3,g3⟩
      have B3:=zH (B2.out.rowR g3 (fun e=>by have:=Option.some.inj e;have:=QB.out;omega))
      have G3:=zH (grown_tr G2.out g3)
      rw [if_pos rfl,Int.toNat_natCast,← PV.out,FS.out] at own3
      have O3:=zH own3
      clear own3 g3
      go_wp2_with fail
      exact ⟨⟨k+1,by omega,by go_num,G3.out,B3.out,by rw [HRW.out];exact O3.out⟩,by simp [intOf];omega⟩
     ·have PV:=zH (show patchF H V C l d.za K S P Wo row=0 by rw [FV.out];unfold px;exact if_neg hin)
      rw [if_neg hin,decide_eq_false hin] at PC
      refine PC.mono ?_
      rintro e w2 ⟨rfl,hb⟩
      have G2:=zH (grown_tr GR.out (below_grown hb))
      have B2:=zH (BS.out.fut hb)
      have O2:=zH (ON.out.below hb (Nat.le_refl _) (fun _ h=>h.elim))
      have lq:=(ON.out.lt _ rfl).1
      clear hb
      go_wp2_with fail
      refine (patchDo_any A n cap l d W nw cw B nb cb undef undef undef gt gn gr q N m base _ H V C many wide row _ false w2 (HL.out.away G2.out (by omega) (by have:=QB.out;omega)) HZ.out (BT.out.rowR G2.out (fun e=>QQ.out.1 (Option.some.inj e))) (BN.out.rowR G2.out (fun e=>QQ.out.2.1 (Option.some.inj e))) (BR.out.rowR G2.out (fun e=>QQ.out.2.2 (Option.some.inj e))) O2.out hrow (fun h=>by cases h) (by omega) hn2).mono ?_
      rintro e w3 ⟨rfl,own3,g3⟩
      have B3:=zH (B2.out.rowR g3 (fun e=>by have:=Option.some.inj e;have:=QB.out;omega))
      have G3:=zH (grown_tr G2.out g3)
      rw [if_neg (by decide),FN.out PV.out] at own3
      have O3:=zH own3
      clear own3 g3
      go_wp2_with fail
      exact ⟨⟨k+1,by omega,by go_num,G3.out,B3.out,by rw [HRW.out];exact O3.out⟩,by simp [intOf];omega⟩
    ·obtain rfl:k=WD:=by omega
     go_wp2_with fail
     exact ⟨⟨i+1,by omega,by go_num,GR.out,BS.out,by rw [Nat.succ_mul];exact ON.out⟩,by simp [intOf];omega⟩
  ·obtain rfl:i=M:=by omega
   go_wp2_with fail
   ((try simp only [Exit.inBlock,Exit.then]);refine bodyPost_end (results_none rfl _ _ _) rfl ?_)
   have e:=ON.out
   rw [hN,filling_all] at e
   exact ⟨rfl,e,GR.out⟩
end Go.Proofs.YtlbkekabmpienaaGreat
