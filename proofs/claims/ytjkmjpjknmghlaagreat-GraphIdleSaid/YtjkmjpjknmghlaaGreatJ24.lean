/-
  Windows as rows (layer 12): patch.Of's function.
  Windows as rows (layer 12): slide.each, by which patch.Of's rows are filled.
  Windows as rows (layer 12): patch.over where the places are right.
  Windows as rows (layers 12, 14): a row of the windows times a row of weights is the window's sum.
  The numbers in a window of one channel (layer 19, the document's Window).
  The least and the greatest number (layer 5, the document's Reach).
  slices.Clone of []int8.
  A slice of one number, many times (slices.Repeat).
  What a node tells that its kind does not (layer 25): the document's More.
  slices.Clone of []int32.
  Lists alike, element by element.
  slices.Equal of []int8.
  slices.Equal of []int32.
-/
import Derived.Test.YtjkmjpjknmghlaaGreatJ20
import Derived.Test.YtjkmjpjknmghlaaGreatJ23
import Derived.Deep.DeepCutAuto
import Derived.Deep.CutBlock
set_option linter.unusedVariables false
set_option linter.unusedSimpArgs false
namespace Go.Proofs.YtjkmjpjknmghlaaGreat
open Go.RowKit Go.ChangeShapes Go.WideShapes Fx
set_option maxRecDepth 100000
set_option maxHeartbeats 4000000
theorem patchDo_any (A:Option Addr) (n cap:Nat) (l:List Int) (d:Node) (W:Option Addr) (nw cw:Nat) (B:Option Addr) (nb cb:Nat) (u0 u1 u2:Value) (gt gn gr q N m base:Nat) (L:List Int) (h v c many wide:Int) (row:Nat) (at_:Int) (ok:Bool) (w:World)
  (hl:Sl (tInt .i8) w (blo m) A n cap l) (hz:InK .i8 d.za)
  (bt:Blk w gt 27 #[.int .i64 h,.int .i64 v,.int .i64 c,.slice A n cap]) (bn:Blk w gn 44 (nN d.kind d.a d.b d.k d.s d.p d.out d.za d.zb W nw cw B nb cb d.qm d.qs d.qz d.rm d.rs d.rz d.lo d.hi)) (br:Blk w gr 172 #[.int .i64 many,.int .i64 wide,.slice (some ⟨q,0,none⟩) N N])
  (hown:Own (tInt .i16) w (fun _=>False) base 192 (.slice (some ⟨q,0,none⟩) N N) N L) (hrow:row < N) (hat:ok=true → ∃ i:Nat,at_=i∧i < n) (hN:N≤100000000) (hn:n≤1024) :
  Calls Tryz.prog 149 #[.int .i64 row,.int .i64 at_,.bool ok,.pointer (some ⟨gt,0,none⟩),.pointer (some ⟨gn,0,none⟩),.pointer (some ⟨gr,0,none⟩)] w fun e w'=>e=.returned (.tuple #[])∧Own (tInt .i16) w' (fun _=>False) base 192 (.slice (some ⟨q,0,none⟩) N N) N (if ok=true then L.set row (l.getD at_.toNat 0 - d.za) else L)∧w.grownBy w' (some q):=by
 cases ok with
 | false =>
  go_enter Tryz.func149,Tryz.ntmps149
  go_wp2_with fail
  ((try simp only [Exit.inBlock,Exit.then]);refine bodyPost_end (results_none rfl _ _ _) rfl ?_)
  exact ⟨rfl,hown,grown_self _ _⟩
 | true =>
  obtain ⟨i,rfl,hi⟩:=hat rfl
  rw [if_pos rfl,Int.toNat_natCast]
  obtain ⟨bz,oz,rfl,-,-,cx,ix⟩:=hl.int_at i hi
  obtain ⟨x,hx⟩:∃ x,l.getD i 0=x:=⟨_,rfl⟩
  rw [hx] at cx ix ⊢
  obtain ⟨z,hzz⟩:∃ z,d.za=z:=⟨_,rfl⟩
  have n7:=bn.cell 7
  have t3:=bt.cell 3
  have r2:=br.cell 2
  simp only [gX] at n7 t3 r2
  rw [hzz] at n7 hz ⊢
  rw [inK_i8] at ix hz
  obtain ⟨i1,i2⟩:=ix
  obtain ⟨z1,z2⟩:=hz
  have g6:IntKind.i16.wrap x=x:=by rw [wrap_i16];omega
  have g7:IntKind.i16.wrap z=z:=by rw [wrap_i16];omega
  have g8:IntKind.i16.wrap (x - z)=x - z:=by rw [wrap_i16];omega
  obtain ⟨x0,u0',-,-,c5,c6,c7,-⟩:=hown.cell rfl row hrow
  have ON:=zH hown
  clear hx hzz hown bt bn br hl hat
  go_enter Tryz.func149,Tryz.ntmps149
  go_wp2_with fail
  go_still_tail 13,(by kernel_rfl)
  change wpList _ _ _ _ _ w.drew
  have O2:=zH (ON.out.heap (w':=w.drew) rfl)
  have G2:=zH (grown_drew w (some q))
  clear c5 c6 c7 cx n7 t3 r2 ON
  generalize w.drew=wy at *
  obtain ⟨x9,u9,-,-,c5,c6,c7,-⟩:=O2.out.cell rfl row hrow
  go_wp2_with fail
  ((try simp only [Exit.inBlock,Exit.then]);refine bodyPost_end (results_none rfl _ _ _) rfl ?_)
  obtain ⟨o3,g3⟩:=O2.out.set1 rfl row (.int .i16 (x - z)) (x - z) ⟨rfl,by simp only [InK,IntKind.min,IntKind.max,IntKind.signed,IntKind.bits];simp;omega⟩ (fun _ h=>h.elim)
  exact ⟨rfl,o3,grown_tr G2.out g3⟩
end Go.Proofs.YtjkmjpjknmghlaaGreat
namespace Go.Proofs.YtjkmjpjknmghlaaGreat
open Go.RowKit Go.ChangeShapes Go.WideShapes Fx
set_option maxRecDepth 100000
set_option maxHeartbeats 8000000
def patchF (H V C:Nat) (l:List Int) (za:Int) (K S P Wo:Nat) (r:Nat):Int :=
 px H V C l za ((r / (K*K*C) / Wo*S+r % (K*K*C) / C / K:Nat) - (P:Int)) ((r / (K*K*C) % Wo*S+r % (K*K*C) / C % K:Nat) - (P:Int)) (r % (K*K*C) % C)
theorem below_grown {w w':World} {r:Option Nat} (h:Below w.heap.size w w'):w.grownBy w' r:=⟨h.os,h.tape,h.output,h.size,fun k hk _=>h.block k hk⟩
theorem filling_step {f:Nat → Int} {n k:Nat} (h:k < n) (hf:f k=0):filling 0 f n k=filling 0 f n (k+1):=by
 have e:=filling_set 0 f n k h
 rw [← e,hf]
 unfold filling
 apply List.ext_getElem (by simp)
 intro i h1 h2
 rw [List.getElem_set]
 split
 ·rename_i e;subst e
  rw [List.getElem_append_right (by simp)]
  simp
 ·rfl
theorem each_any (H V C:Nat) (A:Option Addr) (n cap:Nat) (l:List Int) (d:Node) (W:Option Addr) (nw cw:Nat) (B:Option Addr) (nb cb:Nat) (Ho Wo K S P gt gn gr q N m base M WD:Nat) (many wide:Int) (w:World)
  (hl:Sl (tInt .i8) w (blo m) A n cap l) (hm:m≤base) (hn:n=H*V*C) (hn2:n≤1024) (hz:InK .i8 d.za) (hk:d.k=K) (hs:d.s=S) (hp:d.p=P) (k1:1≤K∧K≤5) (s1:S≤4) (p1:P≤4)
  (h1:1≤H∧H≤16) (v1:1≤V∧V≤16) (c1:1≤C∧C≤1024) (he:decide (0 < elems H V C)=true) (ho1:1≤Ho∧Ho≤16) (w1':1≤Wo∧Wo≤16) (hM:Ho*Wo=M) (hWD:K*K*C=WD) (hN:M*WD=N)
  (bt:Blk w gt 27 #[.int .i64 H,.int .i64 V,.int .i64 C,.slice A n cap]) (bn:Blk w gn 44 (nN d.kind d.a d.b d.k d.s d.p d.out d.za d.zb W nw cw B nb cb d.qm d.qs d.qz d.rm d.rs d.rz d.lo d.hi)) (br:Blk w gr 172 #[.int .i64 many,.int .i64 wide,.slice (some ⟨q,0,none⟩) N N]) (qt:gt ≠ q) (qn:gn ≠ q) (qr:gr ≠ q)
  (hown:Own (tInt .i16) w (fun _=>False) base 192 (.slice (some ⟨q,0,none⟩) N N) N (List.replicate N 0)) :
  Calls Tryz.prog 147 #[.agg #[.int .i64 H,.int .i64 V,.int .i64 C,.int .i64 d.kind,.int .i64 d.a,.int .i64 d.b,.int .i64 d.k,.int .i64 d.s,.int .i64 d.p,.int .i64 d.out,.int .i8 d.za,.int .i8 d.zb,.slice W nw cw,.slice B nb cb,.int .i32 d.qm,.int .i64 d.qs,.int .i8 d.qz,.int .i32 d.rm,.int .i64 d.rs,.int .i8 d.rz,.int .i8 d.lo,.int .i8 d.hi,.int .i64 Ho,.int .i64 Wo,.int .i64 1],.func (.func 148) #[.agg #[.int .i64 H,.int .i64 V,.int .i64 C,.int .i64 d.kind,.int .i64 d.a,.int .i64 d.b,.int .i64 d.k,.int .i64 d.s,.int .i64 d.p,.int .i64 d.out,.int .i8 d.za,.int .i8 d.zb,.slice W nw cw,.slice B nb cb,.int .i32 d.qm,.int .i64 d.qs,.int .i8 d.qz,.int .i32 d.rm,.int .i64 d.rs,.int .i8 d.rz,.int .i8 d.lo,.int .i8 d.hi,.int .i64 Ho,.int .i64 Wo,.int .i64 1]] #[],.func (.func 149) #[] #[.pointer (some ⟨gt,0,none⟩),.pointer (some ⟨gn,0,none⟩),.pointer (some ⟨gr,0,none⟩)]] w
   fun e w'=>e=.returned (.tuple #[])∧Own (tInt .i16) w' (fun _=>False) base 192 (.slice (some ⟨q,0,none⟩) N N) N ((List.range N).map (patchF H V C l d.za K S P Wo))∧w.grownBy w' (some q):=by
 have hMb:M≤256:=by rw [← hM];exact Nat.mul_le_mul ho1.2 w1'.2
 have hWb:WD≤25600:=by rw [← hWD];exact Nat.mul_le_mul (Nat.mul_le_mul k1.2 k1.2) c1.2
 have hNb:N≤256*25600:=by rw [← hN];exact Nat.mul_le_mul hMb hWb
 have WI:=zH (fun w=>wide_any H V C d W nw cw B nb cb Ho Wo 1 K w hk k1.2 c1.2)
 rw [hWD] at WI
 have EL:=zH (fun w=>elems_any (Ho:Int) (1:Int) (Wo:Int) w (by rw [inK_i64];omega) (by rw [inK_i64];omega) (by rw [inK_i64];omega))
 have hel:elems (Ho:Int) (Wo:Int) (1:Int)=(M:Int):=by
  rw [elems_iff,if_pos ⟨by omega,by omega,by omega,by omega,by omega,by omega,by rw [Int.mul_one,← Int.natCast_mul,hM];omega⟩,Int.mul_one,← Int.natCast_mul,hM]
 rw [hel] at EL
 have PL:=zH (fun (i k:Nat) (hi:i≤1024) (hkk:k≤25600) w=>place_any H V C d W nw cw B nb cb Ho Wo 1 K S P i k w hk hs hp k1 s1 p1 h1 v1 c1 he w1' hi hkk)
 have HL:=zH hl
 have HZ:=zH hz
 have BT:=zH bt
 have BN:=zH bn
 have BR:=zH br
 have NE:=zH hn
 have QQ:=zH (And.intro qt (And.intro qn qr))
 have hq:=hown.lt _ rfl
 rw [← filling_zero 0 (patchF H V C l d.za K S P Wo) N] at hown
 obtain ⟨w1,hw_w1,BS,k_w1⟩:=nB w #[.int .i64 H,.int .i64 V,.int .i64 C,.int .i64 d.kind,.int .i64 d.a,.int .i64 d.b,.int .i64 d.k,.int .i64 d.s,.int .i64 d.p,.int .i64 d.out,.int .i8 d.za,.int .i8 d.zb,.slice W nw cw,.slice B nb cb,.int .i32 d.qm,.int .i64 d.qs,.int .i8 d.qz,.int .i32 d.rm,.int .i64 d.rs,.int .i8 d.rz,.int .i8 d.lo,.int .i8 d.hi,.int .i64 Ho,.int .i64 Wo,.int .i64 1] 187
 have GR:=zH (below_grown (r:=some q) k_w1)
 have ON:=zH (hown.below k_w1 (Nat.le_refl _) (fun _ h=>h.elim))
 have QB:=zH (show q < w.heap.size from hq.2)
 clear hl hz bt bn br hn qt qn qr hown hq hel he hk hs hp k_w1
 go_enter Tryz.func147,Tryz.ntmps147
 go_wp2_with (first|(refine lB 187 (.tmp 3) w.heap.size BS.out Tryz.underlying187 ?_)|(go_at_call 146;refine (WI.out _).mono ?_;rintro e w2 ⟨rfl,hb⟩;replace BS:=zH (BS.out.fut hb);replace GR:=zH (grown_tr GR.out (below_grown hb));replace ON:=zH (ON.out.below hb (Nat.le_refl _) (fun _ h=>h.elim));clear hb hw_w1)|(refine wpList_load_blk rfl 24 (.tmp 13) rfl w.heap.size 22 rfl _ #[.int .i64 H,.int .i64 V,.int .i64 C,.int .i64 d.kind,.int .i64 d.a,.int .i64 d.b,.int .i64 d.k,.int .i64 d.s,.int .i64 d.p,.int .i64 d.out,.int .i8 d.za,.int .i8 d.zb,.slice W nw cw,.slice B nb cb,.int .i32 d.qm,.int .i64 d.qs,.int .i8 d.qz,.int .i32 d.rm,.int .i64 d.rs,.int .i8 d.rz,.int .i8 d.lo,.int .i8 d.hi,.int .i64 Ho,.int .i64 Wo,.int .i64 1] #[.int .i64 Ho,.int .i64 Wo,.int .i64 1] _ BS.out Tryz.underlying24 rfl (by kernel_rfl) rfl ?_)|(go_at_call 23;refine (EL.out _).mono ?_;rintro e w3 ⟨rfl,hb⟩;replace BS:=zH (BS.out.fut hb);replace GR:=zH (grown_tr GR.out (below_grown hb));replace ON:=zH (ON.out.below hb (Nat.le_refl _) (fun _ h=>h.elim));clear hb))
 go_loopw [16] (fun ii wr=>∃ i:Nat,i≤M∧ii=.int .i64 i∧w.grownBy wr (some q)∧Blk wr w.heap.size 187 #[.int .i64 H,.int .i64 V,.int .i64 C,.int .i64 d.kind,.int .i64 d.a,.int .i64 d.b,.int .i64 d.k,.int .i64 d.s,.int .i64 d.p,.int .i64 d.out,.int .i8 d.za,.int .i8 d.zb,.slice W nw cw,.slice B nb cb,.int .i32 d.qm,.int .i64 d.qs,.int .i8 d.qz,.int .i32 d.rm,.int .i64 d.rs,.int .i8 d.rz,.int .i8 d.lo,.int .i8 d.hi,.int .i64 Ho,.int .i64 Wo,.int .i64 1]∧Own (tInt .i16) wr (fun _=>False) base 192 (.slice (some ⟨q,0,none⟩) N N) N (filling 0 (patchF H V C l d.za K S P Wo) N (i*WD))) (fun ii _=>M - (intOf ii).toNat)
 case atStart=>exact ⟨0,Nat.zero_le _,rfl,GR.out,BS.out,by rw [Nat.zero_mul];exact ON.out⟩
 case round =>
  obtain ⟨i,hi,rfl,f0,f1,f2⟩:=hrel
  clear GR BS ON
  have GR:=zH f0
  have BS:=zH f1
  have ON:=zH f2
  clear f0 f1 f2
  by_cases hlt:i < M
  ·have p1':(i:Int) < (M:Int):=by omega
   go_wp2_with fail
   go_loopw [20] (fun ii wr=>∃ k:Nat,k≤WD∧ii=.int .i64 k∧w.grownBy wr (some q)∧Blk wr w.heap.size 187 #[.int .i64 H,.int .i64 V,.int .i64 C,.int .i64 d.kind,.int .i64 d.a,.int .i64 d.b,.int .i64 d.k,.int .i64 d.s,.int .i64 d.p,.int .i64 d.out,.int .i8 d.za,.int .i8 d.zb,.slice W nw cw,.slice B nb cb,.int .i32 d.qm,.int .i64 d.qs,.int .i8 d.qz,.int .i32 d.rm,.int .i64 d.rs,.int .i8 d.rz,.int .i8 d.lo,.int .i8 d.hi,.int .i64 Ho,.int .i64 Wo,.int .i64 1]∧Own (tInt .i16) wr (fun _=>False) base 192 (.slice (some ⟨q,0,none⟩) N N) N (filling 0 (patchF H V C l d.za K S P Wo) N (i*WD+k))) (fun ii _=>WD - (intOf ii).toNat)
   case atStart=>exact ⟨0,Nat.zero_le _,rfl,GR.out,BS.out,ON.out⟩
   case round =>
    obtain ⟨k,hk,rfl,f0,f1,f2⟩:=hrel
    clear GR BS ON
    have GR:=zH f0
    have BS:=zH f1
    have ON:=zH f2
    clear f0 f1 f2
    by_cases hlk:k < WD
    ·have p2':(k:Int) < (WD:Int):=by omega
     go_wp2_with fail
     have hrow:i*WD+k < N:=by
      rw [← hN]
      have:(i+1)*WD≤M*WD:=Nat.mul_le_mul_right _ hlt
      rw [Nat.succ_mul] at this
      omega
     have dv:(i*WD+k) / WD=i:=by rw [Nat.mul_comm,Nat.mul_add_div (by omega),Nat.div_eq_of_lt hlk,Nat.add_zero]
     have md:(i*WD+k) % WD=k:=by rw [Nat.mul_comm,Nat.mul_add_mod,Nat.mod_eq_of_lt hlk]
     obtain ⟨r1,hr1⟩:∃ x,i*WD=x:=⟨_,rfl⟩
     have j1:(i:Int)*(WD:Int)=(r1:Int):=by rw [← hr1];simp
     have hr1b:r1≤256*25600:=by rw [← hr1];exact Nat.mul_le_mul (by omega) hWb
     have e1:IntKind.i64.wrap ((i:Int)*(WD:Int))=(r1:Int):=by rw [j1];exact IntWalk.i64_in _ (by omega)
     obtain ⟨row,hrw⟩:∃ x,i*WD+k=x:=⟨_,rfl⟩
     have e2:IntKind.i64.wrap ((r1:Int)+(k:Int))=(row:Int):=(IntWalk.i64_in _ (by omega)).trans (by omega)
     rw [hrw] at hrow dv md ON
     have HRW:=zH (show i*WD+(k+1)=row+1 by omega)
     obtain ⟨yy,hyy⟩:∃ x:Int,((i / Wo*S+k / C / K:Nat):Int) - (P:Int)=x:=⟨_,rfl⟩
     obtain ⟨xx,hxx⟩:∃ x:Int,((i % Wo*S+k / C % K:Nat):Int) - (P:Int)=x:=⟨_,rfl⟩
     have FV:=zH (show patchF H V C l d.za K S P Wo row=px H V C l d.za yy xx (k % C) by unfold patchF;rw [hWD,dv,md,hyy,hxx])
     have PC:=PL.out i k (by omega) (by omega) wr
     rw [hyy,hxx] at PC
     have FS:=zH (filling_set 0 (patchF H V C l d.za K S P Wo) N row hrow)
     have FN:=zH (fun hf=>filling_step (f:=patchF H V C l d.za K S P Wo) (n:=N) (k:=row) hrow hf)
     clear dv md hyy hxx hrw hr1 j1
     by_cases hin:inside H V yy xx
     ·have hin2:=hin
      unfold inside at hin2
      have HIX:=zH (show placeV V C yy xx (k % C) < n by rw [NE.out];exact idx_lt yy.toNat xx.toNat (k % C) H V C (by omega) (by omega) (Nat.mod_lt _ (by omega)))
      have PV:=zH (show patchF H V C l d.za K S P Wo row=l.getD (placeV V C yy xx (k % C)) 0 - d.za by rw [FV.out];unfold px;rw [if_pos hin2];rfl)
      clear hin2
      rw [if_pos hin,decide_eq_true hin] at PC
      refine PC.mono ?_
      rintro e w2 ⟨rfl,hb⟩
      have G2:=zH (grown_tr GR.out (below_grown hb))
      have B2:=zH (BS.out.fut hb)
      have O2:=zH (ON.out.below hb (Nat.le_refl _) (fun _ h=>h.elim))
      have lq:=(ON.out.lt _ rfl).1
      clear hb
      go_wp2_with fail
      refine (patchDo_any A n cap l d W nw cw B nb cb undef undef undef gt gn gr q N m base _ H V C many wide row _ true w2 (HL.out.away G2.out (by omega) (by have:=QB.out;omega)) HZ.out (BT.out.rowR G2.out (fun e=>QQ.out.1 (Option.some.inj e))) (BN.out.rowR G2.out (fun e=>QQ.out.2.1 (Option.some.inj e))) (BR.out.rowR G2.out (fun e=>QQ.out.2.2 (Option.some.inj e))) O2.out hrow (fun _=>⟨_,rfl,HIX.out⟩) (by omega) hn2).mono ?_
      rintro e w3 ⟨rfl,own3,g3⟩
      have B3:=zH (B2.out.rowR g3 (fun e=>by have:=Option.some.inj e;have:=QB.out;omega))
      have G3:=zH (grown_tr G2.out g3)
      rw [if_pos rfl,Int.toNat_natCast,← PV.out,FS.out] at own3
      have O3:=zH own3
      clear own3 g3
      go_wp2_with fail
      exact ⟨⟨k+1,by omega,by go_num,G3.out,B3.out,by rw [HRW.out];exact O3.out⟩,by simp [intOf];omega⟩
     ·have PV:=zH (show patchF H V C l d.za K S P Wo row=0 by rw [FV.out];unfold px;exact if_neg hin)
      rw [if_neg hin,decide_eq_false hin] at PC
      refine PC.mono ?_
      rintro e w2 ⟨rfl,hb⟩
      have G2:=zH (grown_tr GR.out (below_grown hb))
      have B2:=zH (BS.out.fut hb)
      have O2:=zH (ON.out.below hb (Nat.le_refl _) (fun _ h=>h.elim))
      have lq:=(ON.out.lt _ rfl).1
      clear hb
      go_wp2_with fail
      refine (patchDo_any A n cap l d W nw cw B nb cb undef undef undef gt gn gr q N m base _ H V C many wide row _ false w2 (HL.out.away G2.out (by omega) (by have:=QB.out;omega)) HZ.out (BT.out.rowR G2.out (fun e=>QQ.out.1 (Option.some.inj e))) (BN.out.rowR G2.out (fun e=>QQ.out.2.1 (Option.some.inj e))) (BR.out.rowR G2.out (fun e=>QQ.out.2.2 (Option.some.inj e))) O2.out hrow (fun h=>by cases h) (by omega) hn2).mono ?_
      rintro e w3 ⟨rfl,own3,g3⟩
      have B3:=zH (B2.out.rowR g3 (fun e=>by have:=Option.some.inj e;have:=QB.out;omega))
      have G3:=zH (grown_tr G2.out g3)
      rw [if_neg (by decide),FN.out PV.out] at own3
      have O3:=zH own3
      clear own3 g3
      go_wp2_with fail
      exact ⟨⟨k+1,by omega,by go_num,G3.out,B3.out,by rw [HRW.out];exact O3.out⟩,by simp [intOf];omega⟩
    ·obtain rfl:k=WD:=by omega
     go_wp2_with fail
     exact ⟨⟨i+1,by omega,by go_num,GR.out,BS.out,by rw [Nat.succ_mul];exact ON.out⟩,by simp [intOf];omega⟩
  ·obtain rfl:i=M:=by omega
   go_wp2_with fail
   ((try simp only [Exit.inBlock,Exit.then]);refine bodyPost_end (results_none rfl _ _ _) rfl ?_)
   have e:=ON.out
   rw [hN,filling_all] at e
   exact ⟨rfl,e,GR.out⟩
end Go.Proofs.YtjkmjpjknmghlaaGreat
namespace Go.Proofs.YtjkmjpjknmghlaaGreat
open Go.RowKit Go.ChangeShapes Go.WideShapes Fx
set_option maxRecDepth 100000
set_option maxHeartbeats 4000000
theorem slide_one {H V C:Nat} {d:Node} {o:Int} {Ho Wo Co:Nat} (h:slideV H V C d.k d.s d.p o=(((Ho:Int),(Wo:Int),(Co:Int)),0)):slideV H V C d.k d.s d.p 1=(((Ho:Int),(Wo:Int),1),0):=by
 obtain ⟨K,S,P,Ho',Wo',Co',WK,e1,e2,e3,e4,-⟩:=slide_nat h
 obtain rfl:Ho=Ho':=by omega
 obtain rfl:Wo=Wo':=by omega
 unfold slideV at h ⊢
 by_cases c1:elems H V C=0
 ·rw [if_pos c1] at h;cases (Prod.mk.inj h).2
 rw [if_neg c1] at h ⊢
 by_cases c2:(stepsV H d.k d.s d.p).2 ≠ 0
 ·rw [if_pos c2] at h;exact absurd (Prod.mk.inj h).2 c2
 rw [if_neg c2] at h ⊢
 by_cases c3:(stepsV V d.k d.s d.p).2 ≠ 0
 ·rw [if_pos c3] at h;exact absurd (Prod.mk.inj h).2 c3
 rw [if_neg c3] at h ⊢
 by_cases c4:elems (stepsV H d.k d.s d.p).1 (stepsV V d.k d.s d.p).1 o=0
 ·rw [if_pos c4] at h;cases (Prod.mk.inj h).2
 rw [if_neg c4] at h
 have h':=(Prod.mk.inj h).1
 have f1:=(Prod.mk.inj h').1
 have f2:=(Prod.mk.inj (Prod.mk.inj h').2).1
 rw [f1,f2]
 have e:elems (Ho:Int) (Wo:Int) 1=((Ho*Wo:Nat):Int):=by
  have a:=WK.ho1
  have b:=WK.wo1
  have:Ho*Wo≤256:=Nat.mul_le_mul a.2 b.2
  rw [elems_iff,if_pos ⟨by omega,by omega,by omega,by omega,by omega,by omega,by rw [Int.mul_one,← Int.natCast_mul];omega⟩,Int.mul_one,← Int.natCast_mul]
 have hp:0 < Ho*Wo:=Nat.mul_pos (by have:=WK.ho1;omega) (by have:=WK.wo1;omega)
 rw [e,if_neg (by omega)]
theorem over_any (H V C:Nat) (d:Node) (W:Option Addr) (nw cw:Nat) (B:Option Addr) (nb cb:Nat) (Ho Wo:Nat) (w:World) (h1:H≤16) (v1:V≤16) (c1:C≤1024) (hs:slideV H V C d.k d.s d.p 1=(((Ho:Int),(Wo:Int),1),0)) :
  Calls Tryz.prog 145 #[.agg #[.int .i64 H,.int .i64 V,.int .i64 C],.agg (nN d.kind d.a d.b d.k d.s d.p d.out d.za d.zb W nw cw B nb cb d.qm d.qs d.qz d.rm d.rs d.rz d.lo d.hi)] w fun e w'=>e=.returned (.tuple #[.agg #[.int .i64 H,.int .i64 V,.int .i64 C,.int .i64 d.kind,.int .i64 d.a,.int .i64 d.b,.int .i64 d.k,.int .i64 d.s,.int .i64 d.p,.int .i64 d.out,.int .i8 d.za,.int .i8 d.zb,.slice W nw cw,.slice B nb cb,.int .i32 d.qm,.int .i64 d.qs,.int .i8 d.qz,.int .i32 d.rm,.int .i64 d.rs,.int .i8 d.rz,.int .i8 d.lo,.int .i8 d.hi,.int .i64 Ho,.int .i64 Wo,.int .i64 1],.int .i64 0])∧Below w.heap.size w w':=by
 have SD:=zH (fun w=>slide_any (H:Int) V C d.k d.s d.p 1 w (by rw [inK_i64];omega) (by rw [inK_i64];omega) (by rw [inK_i64];omega) (by decide))
 rw [hs] at SD
 simp only [retS] at SD
 have FR:=zH (Far.refl w)
 obtain ⟨w1,hw_w1,BS,k_w1⟩:=nB w #[.int .i64 H,.int .i64 V,.int .i64 C] 24
 replace FR:=zH (FR.out.fut k_w1)
 clear k_w1
 obtain ⟨w2,hw_w2,BN,k_w2⟩:=nB w1 (nN d.kind d.a d.b d.k d.s d.p d.out d.za d.zb W nw cw B nb cb d.qm d.qs d.qz d.rm d.rs d.rz d.lo d.hi) 44
 replace FR:=zH (FR.out.fut k_w2)
 replace BS:=zH (BS.out.fut k_w2)
 clear k_w2
 obtain ⟨w3,hw_w3,BR,k_w3⟩:=nB w2 #[.int .i64 0,.int .i64 0,.int .i64 0,Value.int .i64 0,Value.int .i64 0,Value.int .i64 0,Value.int .i64 0,Value.int .i64 0,Value.int .i64 0,Value.int .i64 0,Value.int .i8 0,Value.int .i8 0,Value.slice none 0 0,Value.slice none 0 0,Value.int .i32 0,Value.int .i64 0,Value.int .i8 0,Value.int .i32 0,Value.int .i64 0,Value.int .i8 0,Value.int .i8 0,Value.int .i8 0,.int .i64 0,.int .i64 0,.int .i64 0] 187
 replace FR:=zH (FR.out.fut k_w3)
 replace BS:=zH (BS.out.fut k_w3)
 replace BN:=zH (BN.out.fut k_w3)
 clear k_w3
 have l1:w.heap.size < w1.heap.size:=by rw [← hw_w1];simp
 have l2:w1.heap.size < w2.heap.size:=by rw [← hw_w2];simp
 have n3:=BN.out.cell 3
 have n4:=BN.out.cell 4
 have n5:=BN.out.cell 5
 simp only [gX] at n3 n4 n5
 clear hs
 go_enter Tryz.func145,Tryz.ntmps145
 go_wp2_with (first|(refine lB 24 (.tmp 2) w.heap.size BS.out Tryz.underlying24 ?_)|(go_at_call 77;refine (SD.out _).mono ?_;rintro e w4 ⟨rfl,hb⟩;replace FR:=zH (FR.out.fut hb);replace BS:=zH (BS.out.fut hb);replace BN:=zH (BN.out.fut hb);replace BR:=zH (BR.out.fut hb);have l4:=hb.size;clear hb n3 n4 n5 hw_w1 hw_w2 hw_w3;obtain ⟨w5,hw_w5⟩:∃ x,w4.alloc (.cells #[.int .i64 Ho,.int .i64 Wo,.int .i64 1] 24)=x:=⟨_,rfl⟩;have hb:Below w4.heap.size w4 w5:=(by rw [← hw_w5];exact (Below.refl _ _).alloc (Nat.le_refl _) _);have BM:=zH (show Blk w5 w4.heap.size 24 #[.int .i64 Ho,.int .i64 Wo,.int .i64 1] by rw [← hw_w5];exact Blk.now _ _ _ _ rfl);replace FR:=zH (FR.out.fut hb);replace BS:=zH (BS.out.fut hb);replace BN:=zH (BN.out.fut hb);replace BR:=zH (BR.out.fut hb);clear hb)|(refine lB 44 (.tmp 3) w1.heap.size BN.out Tryz.underlying44 ?_)|(refine lB 24 (.tmp 6) w4.heap.size BM.out Tryz.underlying24 ?_)|(refine sB 187 (.tmp 4) (.tmp 22) w2.heap.size #[.int .i64 H,.int .i64 V,.int .i64 C,.int .i64 d.kind,.int .i64 d.a,.int .i64 d.b,.int .i64 d.k,.int .i64 d.s,.int .i64 d.p,.int .i64 d.out,.int .i8 d.za,.int .i8 d.zb,.slice W nw cw,.slice B nb cb,.int .i32 d.qm,.int .i64 d.qs,.int .i8 d.qz,.int .i32 d.rm,.int .i64 d.rs,.int .i8 d.rz,.int .i8 d.lo,.int .i8 d.hi,.int .i64 Ho,.int .i64 Wo,.int .i64 1] BR.out ?_;intro w9 B9 g9))
 refine ret_cell_tmp rfl B9 rfl Tryz.underlying187 (by show _=some 25;kernel_rfl) rfl ?_
 exact ⟨rfl,(FR.out.away g9 (by omega)).out⟩
end Go.Proofs.YtjkmjpjknmghlaaGreat
namespace Go.Proofs.YtjkmjpjknmghlaaGreat
theorem patch_conv (H V C:Nat) (l w:List Int) (za:Int) (K S P Wo i o:Nat) (hw:0 < K*K*C) :
  (sumN (K*K*C) fun k=>patchF H V C l za K S P Wo (i*(K*K*C)+k)*w.getD (o*(K*K*C)+k) 0)=convN H V C l za w K S P o (i / Wo) (i % Wo):=by
 unfold convN
 refine sumN_congr fun k hk=>?_
 have dv:(i*(K*K*C)+k) / (K*K*C)=i:=by rw [Nat.mul_comm,Nat.mul_add_div hw,Nat.div_eq_of_lt hk,Nat.add_zero]
 have md:(i*(K*K*C)+k) % (K*K*C)=k:=by rw [Nat.mul_comm,Nat.mul_add_mod,Nat.mod_eq_of_lt hk]
 unfold patchF
 rw [dv,md,Int.mul_comm]
end Go.Proofs.YtjkmjpjknmghlaaGreat
namespace Go.Proofs.YtjkmjpjknmghlaaGreat
open Go.RowKit Go.ChangeShapes Go.WideShapes Fx
set_option maxRecDepth 100000
set_option maxHeartbeats 4000000
def winL (H V C:Nat) (l:List Int) (K S P:Nat) (c y x:Nat):Nat → List Int
 | 0=>[]
 | q+1=>if inside H V ((y*S+q / K:Nat) - (P:Int)) ((x*S+q % K:Nat) - (P:Int)) then winL H V C l K S P c y x q ++ [l.getD (placeV V C ((y*S+q / K:Nat) - (P:Int)) ((x*S+q % K:Nat) - (P:Int)) c) 0] else winL H V C l K S P c y x q
theorem winL_len (H V C:Nat) (l:List Int) (K S P:Nat) (c y x:Nat):∀ q,(winL H V C l K S P c y x q).length≤q
 | 0=>Nat.le_refl _
 | q+1=>by
  have ih:=winL_len H V C l K S P c y x q
  unfold winL
  split
  ·simp;omega
  ·omega
end Go.Proofs.YtjkmjpjknmghlaaGreat
namespace Go.Proofs.YtjkmjpjknmghlaaGreat
open Go.RowKit Go.ChangeShapes Go.WideShapes Fx
set_option maxRecDepth 100000
set_option maxHeartbeats 4000000
def hiN (l:List Int):Nat → Int
 | 0=>l.getD 0 0
 | k+1=>if hiN l k < l.getD k 0 then l.getD k 0 else hiN l k
end Go.Proofs.YtjkmjpjknmghlaaGreat
namespace Go.Proofs.YtjkmjpjknmghlaaGreat
open Go.RowKit Go.ChangeShapes Go.WideShapes
set_option maxRecDepth 100000
theorem ei_i8':EI Tryz.prog 25 39 (.int .i8 0) 1 1:=⟨Tryz.underlying25,by kernel_rfl,rfl,by decide⟩
theorem clone8_any (A:Option Addr) (n c:Nat) (l:List Int) (w:World) (h:Sl (tInt .i8) w (blo w.heap.size) A n c l) (hn:n≤140737488351232) :
  Calls Tryz.prog 26 #[.slice A n c] w (RetSl (tInt .i8) w l):=by
 cases A with
 | none =>
  have hc:=h.nil_ rfl
  have hm:=h.cap_le
  obtain rfl:c=0:=hc
  obtain rfl:n=0:=by omega
  obtain rfl:l=[]:=List.length_eq_zero_iff.1 h.n_eq
  clear h
  have q0:=fun w=>Lib.run_eql_slice_nil (P:=Tryz.prog) w 25 39 none 0 0 0 0 Tryz.underlying25
  simp only [Option.isNone_none] at q0
  go_enter Tryz.func26,Tryz.ntmps26
  go_wp2_with fail
  go_ret
  exact ⟨none,0,0,rfl,Sl.nil _ _ _,Below.refl _ _⟩
 | some ad =>
  have H:=zH h
  clear h
  have q0:=fun w=>Lib.run_eql_slice_nil (P:=Tryz.prog) w 25 39 (some ad) n c 0 0 Tryz.underlying25
  simp only [Option.isNone_some] at q0
  go_enter Tryz.func26,Tryz.ntmps26
  have o0:=Own.lit0 (W:=w) (k:=.i8) (E:=39) (base:=w.heap.size) (Nat.le_refl _)
  have k0:Below w.heap.size w (w.alloc (.cells #[] 39)):=(Below.refl _ _).alloc (Nat.le_refl _) _
  have s0:=H.out.later k0 (Nat.le_refl _)
  go_wp2_with (at_builtin;refine wpList_extend rfl _ _ rfl ei_i8' rfl o0 rfl s0 (by unfold maxLen;omega) (by omega) k0.size ?_;intro v' w' o' g' a')
  go_ret
  refine o'.ret (by decide) (k0.grown g' k0.size (fun k h=>(o0.lt k h).1)) (fun b h=>h.elim)
end Go.Proofs.YtjkmjpjknmghlaaGreat
namespace Go.Proofs.YtjkmjpjknmghlaaGreat
open Go.RowKit Go.ChangeShapes Go.WideShapes Fx
set_option maxRecDepth 100000
set_option maxHeartbeats 4000000
theorem bitsMul_any (N:Nat) (w:World) (hN:N≤1024) :
  Calls Tryz.prog 154 #[.int .u64 1,.int .u64 N] w fun e w'=>e=.returned (.tuple #[.int .u64 0,.int .u64 N])∧w=w':=by
 have B:=zH (fun w=>Tryz.bits_Mul64 1 N (by decide) (by omega) w)
 rw [show 1*N / 18446744073709551616=0 by omega,show 1*N % 18446744073709551616=N by omega] at B
 go_enter Tryz.func154,Tryz.ntmps154
 go_wp2_with (go_at_call 101;refine (B.out _).mono ?_;rintro e w2 ⟨rfl,rfl⟩)
 go_ret2
 exact ⟨rfl,rfl⟩
theorem rep_splice (N k m:Nat) (v:Int) (h:k+m≤N):splice (List.replicate k v ++ List.replicate (N - k) 0) k (List.replicate m v)=List.replicate (k+m) v ++ List.replicate (N - (k+m)) 0:=by
 unfold splice
 rw [List.take_append_of_le_length (by simp),List.take_of_length_le (by simp),List.length_replicate,List.drop_append]
 simp only [List.drop_replicate,List.length_replicate]
 rw [show k - (k+m)=0 by omega,List.replicate_zero,List.nil_append,← List.append_assoc,List.replicate_append_replicate,show N - k - (k+m - k)=N - (k+m) by omega]
theorem repeat_any (v:Int) (N g:Nat) (w:World) (hN:1≤N∧N≤1024) (hv:InK .i8 v) (hc:w.cell? ⟨g,0,none⟩=some (.int .i8 v)) (hg:g < w.heap.size) :
  Calls Tryz.prog 141 #[.slice (some ⟨g,0,none⟩) 1 1,.int .i64 N] w fun e w'=>∃ q,e=.returned (.slice (some ⟨q,0,none⟩) N N)∧Own (tInt .i8) w' (fun _=>False) w.heap.size 39 (.slice (some ⟨q,0,none⟩) N N) N (List.replicate N v)∧Below w.heap.size w w':=by
 have MU:=zH (fun w=>bitsMul_any N w hN.2)
 have HV:=zH hv
 have HC:=zH hc
 have FR:=zH (Far.refl w)
 have c1:IntKind.u64.wrap (N:Int)=(N:Int):=by rw [IntKind.wrap_u64];omega
 have c2:IntKind.i64.wrap (N:Int)=(N:Int):=IntWalk.i64_in _ (by omega)
 have n1:¬ (9223372036854775807:Int) < (N:Int):=by omega
 have n2:¬ (N:Int) < 0:=by omega
 obtain ⟨hN1,hN2⟩:=hN
 clear hv hc
 have f0:=zH (show ∀ x ∈ [v],InK .i8 x by intro x hx;rw [List.mem_singleton] at hx;subst hx;exact HV.out)
 have f1:=zH (show [v].length=Nat.min 1 N by show 1=min 1 N;omega)
 have f2:=zH (show ∀ w3:World,Below w.heap.size w w3 → ∀ j,j < [v].length → w3.cell? ((⟨g,0,none⟩:Addr).add j)=some (.int .i8 ([v].getD j 0)) by
  intro w3 kb j hj
  obtain rfl:j=0:=by have:j < 1:=hj;omega
  exact (kb.cell (p:=⟨g,0,none⟩) hg).trans HC.out)
 have f3:=zH (show 0+[v].length≤N by show 1≤N;omega)
 go_enter Tryz.func141,Tryz.ntmps141
 go_wp2_with (first|(go_at_call 154;refine (MU.out _).mono ?_;rintro e w2 ⟨rfl,rfl⟩)|(at_make;refine wpList_make (t:=tInt .i8) (S:=fun _=>False) (base:=w.heap.size) rfl _ _ rfl ei_b8 .i64 .i64 _ _ N rfl rfl rfl rfl ?_ ?_ ?_ 0 ⟨rfl,by decide⟩ (fun _ h=>h.elim) ?_;rotate_right;intro w3 hown hgr;have kb:Below w.heap.size w w3:=(Below.refl _ _).grown hgr (Nat.le_refl _) (by simp);have ON:=zH hown;replace FR:=zH (FR.out.fut kb);have lq:=hown.lt _ rfl;have g3:=zH (f2.out w3 kb);clear hown hgr kb)|(refine wpList_copyO (k:=.i8) rfl (.tmp 31) (.tmp 32) 25 25 rfl 39 Tryz.underlying25 (by kernel_rfl) ON.out 0 N N rfl ⟨g,0,none⟩ 1 1 rfl [v] f0.out f1.out g3.out f3.out ?_;intro w4 own4 g4))
 rotate_left
 ·omega
 ·unfold maxLen;omega
 ·omega
 have O4:=zH (show Own (tInt .i8) w4 (fun _=>False) w.heap.size 39 (.slice (some ⟨w.heap.size,0,none⟩) N N) N (List.replicate 1 v ++ List.replicate (N - 1) 0) by
  have:=rep_splice N 0 1 v (by omega)
  simp only [List.replicate_zero,List.nil_append,Nat.sub_zero,Nat.zero_add] at this
  rw [← this];exact own4)
 replace FR:=zH (FR.out.away g4 (Nat.le_refl _))
 have ON:=O4
 clear own4 g4 g3 f0 f1 f2 f3 O4 MU HC c1 n1 n2
 go_loopw [8] (fun ii wr=>∃ k:Nat,1≤k∧k≤N∧ii=.int .i64 k∧Far w wr∧Own (tInt .i8) wr (fun _=>False) w.heap.size 39 (.slice (some ⟨w.heap.size,0,none⟩) N N) N (List.replicate k v ++ List.replicate (N - k) 0)) (fun ii _=>N - (intOf ii).toNat)
 case atStart=>exact ⟨1,Nat.le_refl _,hN1,rfl,FR.out,ON.out⟩
 case round =>
  obtain ⟨k,hk1,hk2,rfl,f0,f1⟩:=hrel
  clear FR ON
  have FR:=zH f0
  have ON:=zH f1
  clear f0 f1
  by_cases hlt:k < N
  ·have p1:(k:Int) < (N:Int):=by omega
   obtain ⟨m,hm⟩:∃ m,Nat.min k (N - k)=m:=⟨_,rfl⟩
   have hm1:1≤m∧k+m≤N:=by rw [← hm];show 1≤min k (N - k)∧k+min k (N - k)≤N;omega
   have HM:=zH hm
   have ne:¬ N=k:=by omega
   have k0:0≤(k:Int):=by omega
   have k2:(k:Int)≤(N:Int):=by omega
   have e1:IntKind.i64.wrap ((k:Int)+(m:Int))=((k+m:Nat):Int):=(IntWalk.i64_in _ (by omega)).trans (by omega)
   clear hm
   have fd:Below w.heap.size w wr.drew:=FR.out.out.drew
   have O2:=zH (ON.out.heap (w':=wr.drew) rfl)
   have f0:=zH (show ∀ x ∈ List.replicate m v,InK .i8 x by intro x hx;rw [List.eq_of_mem_replicate hx];exact HV.out)
   have f1:=zH (show (List.replicate m v).length=Nat.min k (N - k) by rw [List.length_replicate];exact HM.out.symm)
   have f2:=zH (show ∀ j,j < (List.replicate m v).length → wr.drew.cell? ((⟨w.heap.size,0,none⟩:Addr).add j)=some (.int .i8 ((List.replicate m v).getD j 0)) by
    intro j hj
    rw [List.length_replicate] at hj
    have hmk:m≤k:=by rw [← HM.out];exact Nat.min_le_left _ _
    obtain ⟨x,u,hx,hu,hc,-⟩:=O2.out.cell rfl j (by omega)
    rw [List.getElem?_append_left (by rw [List.length_replicate];omega),List.getElem?_replicate,if_pos (by omega)] at hx
    injection hx with hx
    have hu1:=hu.1
    simp only [List.cons.injEq,and_true] at hu1
    have ha:(⟨w.heap.size,0,none⟩:Addr).add j=⟨w.heap.size,j,none⟩:=by unfold Addr.add;split <;> simp_all
    rw [ha,hc,hu1,List.getD_eq_getElem?_getD,List.getElem?_replicate,if_pos hj,hx]
    rfl)
   have f3:=zH (show k+(List.replicate m v).length≤N by rw [List.length_replicate];exact hm1.2)
   go_wp2_with fail
   refine wp_region_T (fun w'=>Below w.heap.size w w') 9 (by kernel_rfl) ?_ (fun hS=>?_)
   ·exact fd
   refine kT 0 rfl hS ?_
   try simp only [pX]
   refine kT 1 rfl hS ?_
   try simp only [pX]
   refine kT 2 rfl hS ?_
   try simp only [pX]
   refine kT 3 rfl hS ?_
   try simp only [pX]
   refine kT 4 rfl hS ?_
   try simp only [pX]
   refine kT 5 rfl hS ?_
   try simp only [pX]
   refine kT 6 rfl hS ?_
   try simp only [pX]
   refine wpAnyT_one (i:=7) (by kernel_rfl) rfl rfl (fun K hK=>?_)
   (rw [if_pos (by rfl)];refine oper_copyO (k:=.i8) (.tmp 41) (.tmp 44) 25 25 rfl 39 Tryz.underlying25 (by kernel_rfl) O2.out k (N - k) (N - k) rfl ⟨w.heap.size,0,none⟩ k N rfl (List.replicate m v) f0.out f1.out f2.out f3.out ?_;intro w4 own4 g4;have O4:=zH own4;clear own4;refine hK.out _ _ (fd.grown g4 fd.size (fun k e=>by injection e with e;omega)) (fun hS=>?_))
   clear hK K
   try simp only [pX]
   refine kT 8 rfl hS ?_
   try simp only [pX]
   refine wpAnyT_tail _ _ rfl rfl (by kernel_rfl) ?_
   have FZ:=zH (show Far w w4 from ⟨hS⟩)
   clear hS f0 f1 f2 f3 O2 g4 fd
   go_wp2_with fail
   have o5:=O4.out
   rw [rep_splice N k m v hm1.2] at o5
   exact ⟨⟨k+m,by omega,by omega,by go_num,FZ.out,o5⟩,by simp [intOf];omega⟩
  ·obtain rfl:k=N:=by omega
   go_wp2_with fail
   go_ret
   refine ⟨_,rfl,?_,FR.out.out⟩
   have:=ON.out
   rw [Nat.sub_self,List.replicate_zero,List.append_nil] at this
   exact this
end Go.Proofs.YtjkmjpjknmghlaaGreat
namespace Go.Proofs.YtjkmjpjknmghlaaGreat
open Go.RowKit Go.ChangeShapes Go.WideShapes
set_option maxRecDepth 100000
def slidesK (k:Int):Bool:=decide (k=1 ∨ k=2 ∨ k=4 ∨ k=5)
def moreP (d:Node):Prop :=
 (sumsK d.kind=false∧(0 < d.w.length ∨ 0 < d.bias.length)) ∨ (d.kind ≠ 1∧d.kind ≠ 3∧d.out ≠ 0) ∨ (slidesK d.kind=false∧(d.k ≠ 0 ∨ d.s ≠ 0)) ∨ (slidesK d.kind=false∧d.kind ≠ 8∧d.p ≠ 0)
  ∨ (d.kind ≠ 6∧(d.b ≠ 0 ∨ d.zb ≠ 0 ∨ d.rm ≠ 0 ∨ d.rs ≠ 0)) ∨ d.rz ≠ 0 ∨ (scaledK d.kind=false∧(d.qm ≠ 0 ∨ d.qs ≠ 0 ∨ d.qz ≠ 0 ∨ d.lo ≠ 0 ∨ d.hi ≠ 0)) ∨ (scaledK d.kind=false∧d.kind ≠ 8∧d.za ≠ 0)
instance (d:Node):Decidable (moreP d):=inferInstanceAs (Decidable (_ ∨ _))
theorem ei_i32':EI Tryz.prog 40 21 (.int .i32 0) 1 4:=⟨Tryz.underlying40,by kernel_rfl,rfl,by decide⟩
theorem clone32_any (A:Option Addr) (n c:Nat) (l:List Int) (w:World) (h:Sl (tInt .i32) w (blo w.heap.size) A n c l) (hn:n≤35184372087808) :
  Calls Tryz.prog 105 #[.slice A n c] w (RetSl (tInt .i32) w l):=by
 cases A with
 | none =>
  have hc:=h.nil_ rfl
  have hm:=h.cap_le
  obtain rfl:c=0:=hc
  obtain rfl:n=0:=by omega
  obtain rfl:l=[]:=List.length_eq_zero_iff.1 h.n_eq
  clear h
  have q0:=fun w=>Lib.run_eql_slice_nil (P:=Tryz.prog) w 40 21 none 0 0 0 0 Tryz.underlying40
  simp only [Option.isNone_none] at q0
  go_enter Tryz.func105,Tryz.ntmps105
  go_wp2_with fail
  go_ret
  exact ⟨none,0,0,rfl,Sl.nil _ _ _,Below.refl _ _⟩
 | some ad =>
  have H:=zH h
  clear h
  have q0:=fun w=>Lib.run_eql_slice_nil (P:=Tryz.prog) w 40 21 (some ad) n c 0 0 Tryz.underlying40
  simp only [Option.isNone_some] at q0
  go_enter Tryz.func105,Tryz.ntmps105
  have o0:=Own.lit0 (W:=w) (k:=.i32) (E:=21) (base:=w.heap.size) (Nat.le_refl _)
  have k0:Below w.heap.size w (w.alloc (.cells #[] 21)):=(Below.refl _ _).alloc (Nat.le_refl _) _
  have s0:=H.out.later k0 (Nat.le_refl _)
  go_wp2_with (at_builtin;refine wpList_extend rfl _ _ rfl ei_i32' rfl o0 rfl s0 (by unfold maxLen;omega) (by omega) k0.size ?_;intro v' w' o' g' a')
  go_ret
  refine o'.ret (by decide) (k0.grown g' k0.size (fun k h=>(o0.lt k h).1)) (fun b h=>h.elim)
end Go.Proofs.YtjkmjpjknmghlaaGreat
namespace Go.Proofs.YtjkmjpjknmghlaaGreat
theorem list_eq_getD {l l':List Int} {n:Nat} (h1:l.length=n) (h2:l'.length=n) (h:∀ j,j < n → l.getD j 0=l'.getD j 0):l=l':=by
 apply List.ext_getElem (by omega)
 intro j ha hb
 have:=h j (by omega)
 rw [List.getD_eq_getElem?_getD,List.getD_eq_getElem?_getD,List.getElem?_eq_getElem ha,List.getElem?_eq_getElem hb] at this
 exact this
end Go.Proofs.YtjkmjpjknmghlaaGreat
namespace Go.Proofs.YtjkmjpjknmghlaaGreat
open Go.RowKit Go.ChangeShapes Go.WideShapes
set_option maxRecDepth 100000
theorem equal8_any (A A':Option Addr) (n cap n' cap':Nat) (l l':List Int) (w:World) (h:Sl (tInt .i8) w (blo w.heap.size) A n cap l) (h':Sl (tInt .i8) w (blo w.heap.size) A' n' cap' l') :
  Calls Tryz.prog 103 #[.slice A n cap,.slice A' n' cap'] w fun e w'=>e=.returned (.bool (decide (l=l')))∧Below w.heap.size w w':=by
 have hm:n≤9223372036854775807:=Nat.le_trans h.cap_le h.max_le
 have hm':n'≤9223372036854775807:=Nat.le_trans h'.cap_le h'.max_le
 have H:=zH h
 have H':=zH h'
 clear h h'
 by_cases hn:n=n'
 rotate_left
 ·have d1:((n:Int) != (n':Int))=true:=by rw [bne_iff_ne];omega
  have d2:decide (l=l')=false:=by rw [decide_eq_false_iff_not];rintro rfl;exact hn (H.out.n_eq.symm.trans H'.out.n_eq)
  rw [d2]
  clear hn
  go_enter Tryz.func103,Tryz.ntmps103
  go_wp2_with fail
  go_ret
  exact ⟨rfl,Below.refl _ _⟩
 subst hn
 have d1:((n:Int) != (n:Int))=false:=by simp
 go_enter Tryz.func103,Tryz.ntmps103
 go_wp2_with fail
 go_loopw [13] (fun i wr=>∃ k:Nat,k≤n∧i=.int .i64 k∧wr.heap=w.heap∧Below w.heap.size w wr∧∀ j,j < k → l.getD j 0=l'.getD j 0) (fun i _=>n - (intOf i).toNat)
 case atStart=>exact ⟨0,Nat.zero_le _,rfl,rfl,Below.refl _ _,fun j hj=>absurd hj (Nat.not_lt_zero _)⟩
 case round =>
  obtain ⟨k,hk,rfl,hh,hb,hq⟩:=hrel
  have HQ:=zH hq
  clear hq
  by_cases hlt:k < n
  ·obtain ⟨b,off,rfl,_,_,c0,i0⟩:=(H.out.below hb (fun _ h=>h)).int_at k hlt
   obtain ⟨b',off',rfl,_,_,c1,i1⟩:=(H'.out.below hb (fun _ h=>h)).int_at k hlt
   have HH:=zH hh
   clear hh i0 i1
   by_cases he:l.getD k 0=l'.getD k 0
   ·rw [← he] at c1
    generalize hx:l.getD k 0=x at *
    have d3:(x != x)=false:=by simp
    have HX:=zH hx
    have HE:=zH he
    clear hx he
    go_wp2_with fail
    go_quiet (fail)
    go_wp2_with fail
    refine ⟨⟨k+1,by omega,by go_num,HH.out,below_drewN hb _,fun j hj=>?_⟩,by simp [intOf];omega⟩
    by_cases hjk:j < k
    ·exact HQ.out j hjk
    ·obtain rfl:j=k:=by omega
     rw [HX.out,HE.out]
   ·have d2:decide (l=l')=false:=by rw [decide_eq_false_iff_not];rintro rfl;exact he rfl
    have d3:(l.getD k 0 != l'.getD k 0)=true:=by rw [bne_iff_ne];exact he
    generalize l.getD k 0=x at *
    generalize l'.getD k 0=y at *
    have D2:=zH d2
    clear d2 he
    go_wp2_with fail
    go_quiet (fail)
    go_wp2_with fail
    go_ret
    exact ⟨by rw [D2.out];rfl,below_drewN hb _⟩
  ·obtain rfl:k=n:=by omega
   go_wp2_with fail
   go_ret
   exact ⟨by rw [decide_eq_true (list_eq_getD H.out.n_eq H'.out.n_eq HQ.out)];rfl,hb⟩
theorem equal32_any (A A':Option Addr) (n cap n' cap':Nat) (l l':List Int) (w:World) (h:Sl (tInt .i32) w (blo w.heap.size) A n cap l) (h':Sl (tInt .i32) w (blo w.heap.size) A' n' cap' l') :
  Calls Tryz.prog 104 #[.slice A n cap,.slice A' n' cap'] w fun e w'=>e=.returned (.bool (decide (l=l')))∧Below w.heap.size w w':=by
 have hm:n≤9223372036854775807:=Nat.le_trans h.cap_le h.max_le
 have hm':n'≤9223372036854775807:=Nat.le_trans h'.cap_le h'.max_le
 have H:=zH h
 have H':=zH h'
 clear h h'
 by_cases hn:n=n'
 rotate_left
 ·have d1:((n:Int) != (n':Int))=true:=by rw [bne_iff_ne];omega
  have d2:decide (l=l')=false:=by rw [decide_eq_false_iff_not];rintro rfl;exact hn (H.out.n_eq.symm.trans H'.out.n_eq)
  rw [d2]
  clear hn
  go_enter Tryz.func104,Tryz.ntmps104
  go_wp2_with fail
  go_ret
  exact ⟨rfl,Below.refl _ _⟩
 subst hn
 have d1:((n:Int) != (n:Int))=false:=by simp
 go_enter Tryz.func104,Tryz.ntmps104
 go_wp2_with fail
 go_loopw [13] (fun i wr=>∃ k:Nat,k≤n∧i=.int .i64 k∧wr.heap=w.heap∧Below w.heap.size w wr∧∀ j,j < k → l.getD j 0=l'.getD j 0) (fun i _=>n - (intOf i).toNat)
 case atStart=>exact ⟨0,Nat.zero_le _,rfl,rfl,Below.refl _ _,fun j hj=>absurd hj (Nat.not_lt_zero _)⟩
 case round =>
  obtain ⟨k,hk,rfl,hh,hb,hq⟩:=hrel
  have HQ:=zH hq
  clear hq
  by_cases hlt:k < n
  ·obtain ⟨b,off,rfl,_,_,c0,i0⟩:=(H.out.below hb (fun _ h=>h)).int_at k hlt
   obtain ⟨b',off',rfl,_,_,c1,i1⟩:=(H'.out.below hb (fun _ h=>h)).int_at k hlt
   have HH:=zH hh
   clear hh i0 i1
   by_cases he:l.getD k 0=l'.getD k 0
   ·rw [← he] at c1
    generalize hx:l.getD k 0=x at *
    have d3:(x != x)=false:=by simp
    have HX:=zH hx
    have HE:=zH he
    clear hx he
    go_wp2_with fail
    go_quiet (fail)
    go_wp2_with fail
    refine ⟨⟨k+1,by omega,by go_num,HH.out,below_drewN hb _,fun j hj=>?_⟩,by simp [intOf];omega⟩
    by_cases hjk:j < k
    ·exact HQ.out j hjk
    ·obtain rfl:j=k:=by omega
     rw [HX.out,HE.out]
   ·have d2:decide (l=l')=false:=by rw [decide_eq_false_iff_not];rintro rfl;exact he rfl
    have d3:(l.getD k 0 != l'.getD k 0)=true:=by rw [bne_iff_ne];exact he
    generalize l.getD k 0=x at *
    generalize l'.getD k 0=y at *
    have D2:=zH d2
    clear d2 he
    go_wp2_with fail
    go_quiet (fail)
    go_wp2_with fail
    go_ret
    exact ⟨by rw [D2.out];rfl,below_drewN hb _⟩
  ·obtain rfl:k=n:=by omega
   go_wp2_with fail
   go_ret
   exact ⟨by rw [decide_eq_true (list_eq_getD H.out.n_eq H'.out.n_eq HQ.out)];rfl,hb⟩
end Go.Proofs.YtjkmjpjknmghlaaGreat
