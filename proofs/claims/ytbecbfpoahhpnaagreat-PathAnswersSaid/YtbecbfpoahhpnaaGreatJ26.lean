/- The numbers of a window, one by one (layer 19: the function of pool.window). -/
import Derived.RangeFuncNested
import Derived.RangeFuncBound
import Derived.OwnWalkIn
import Derived.TacticsInMore
import Derived.LoopNIn
import Derived.LoopIn
import Derived.Test.YtbecbfpoahhpnaaGreatJ24
set_option linter.unusedVariables false
set_option linter.unusedSimpArgs false
set_option maxRecDepth 100000
set_option maxHeartbeats 16000000
namespace Go.Proofs.YtbecbfpoahhpnaaGreat
open Go.RowKit Go.ChangeShapes Go.WideShapes Fx Tryz
abbrev I8:={ x:Int // InK .i8 x }
def e8 (x:I8):Array Value:=#[Value.int .i8 x.1]
def mu (H V C:Nat) (l:List Int) (hl:∀ i,InK .i8 (l.getD i 0)) (K S P:Nat) (c y x:Nat):Nat → List I8
 | 0=>[]
 | q+1=>if bY H V ((y*S+q / K:Nat) - (P:Int)) ((x*S+q % K:Nat) - (P:Int)) then mu H V C l hl K S P c y x q ++ [⟨l.getD (eB V C ((y*S+q / K:Nat) - (P:Int)) ((x*S+q % K:Nat) - (P:Int)) c) 0,hl _⟩] else mu H V C l hl K S P c y x q
theorem oF (H V C:Nat) (l:List Int) (e:∀ i,InK .i8 (l.getD i 0)) (K S P:Nat) (c y x:Nat):∀ q,(mu H V C l e K S P c y x q).map (fun v=>v.1)=lF H V C l K S P c y x q
 | 0=>rfl
 | q+1=>by
  have t:=oF H V C l e K S P c y x q;unfold mu lF;split
  ·rw [List.map_append,t];rfl
  ·exact t
theorem Ct (H V C:Nat) (l:List Int) (e:∀ i,InK .i8 (l.getD i 0)) (K S P:Nat) (c y x q:Nat):(mu H V C l e K S P c y x q).length≤q:=by
 rw [← List.length_map (f:=fun v:I8=>v.1),oF];exact oE H V C l K S P c y x q
theorem oJ {w w':World} (e:Below w w w'):w.grownBy w' none:=⟨e.os,e.tape,e.output,e.size,fun k t _=>e.block k t⟩
theorem Blk.under {w w':World} {t g:Nat} {e:TypeId} {cs:Array Value} (h:Blk w g e cs) (a:Below t w w') (o:g < t):Blk w' g e cs:=⟨(a.block g o).trans h.heap⟩
theorem xX (H V C:Nat) (A:QA) (n bn:Nat) (l:List Int) (d:af) (W:QA) (nw cw:Nat) (B:QA) (nb cb:Nat) (K S P y x c:Nat) (bN bT bH bW bC z m:Nat) (w:World)
  (hl:Sl (ab .i8) w (blo z) A n bn l) (hn:n=H*V*C) (cc:n≤1024) (h1:1≤H∧H≤16) (v1:1≤V∧V≤16) (c1:1≤C∧C≤1024) (he:decide (0 < ag H V C)=true)
  (hk:d.k=K) (hs:d.s=S) (hp:d.p=P) (k1:1≤K∧K≤5) (s1:1≤S∧S≤4) (p1:P≤4) (hy:y≤1000) (hx:x≤1000) (hc:c < C)
  (O:Blk w bN 84 (nN d.kind d.a d.b d.k d.s d.p d.out d.za d.zb W nw cw B nb cb d.qm d.qs d.qz d.rm d.rs d.rz d.lo d.hi)) (Q:Blk w bT 29 (tN H V C A n bn))
  (BH:Blk w bH 3 #[.int .i64 y]) (BW:Blk w bW 3 #[.int .i64 x]) (BC:Blk w bC 3 #[.int .i64 c]) (hb:bN < z∧bT < z∧bH < z∧bW < z∧bC < z) (be:z≤w.heap.size) (hm:1≤m) :
  SeqStopsK Fence.wide m prog 214 #[.pointer (some ⟨bN,0,none⟩),.pointer (some ⟨bT,0,none⟩),.pointer (some ⟨bH,0,none⟩),.pointer (some ⟨bW,0,none⟩),.pointer (some ⟨bC,0,none⟩)] e8 (Below z) (fun N=>N=mu H V C l hl.allK K S P c y x (K*K)) (fun _=>True) (K*K) w:=by
 intro lo J Jx W0 hW hJ bh hY h0;have h8:∀ i,InK .i8 (l.getD i 0):=hl.allK;obtain ⟨I,F⟩:∃ f,mu H V C l hl.allK K S P c y x=f:=⟨_,rfl⟩;have XL:∀ q,(I q).length≤q:=fun q=>by rw [← F];exact Ct _ _ _ _ _ _ _ _ _ _ _ _
 have XZ:I 0=[]:=by rw [← F];rfl
 have al:∀ q,I (q+1)=if bY H V ((y*S+q / K:Nat) - (P:Int)) ((x*S+q % K:Nat) - (P:Int)) then I q ++ [⟨l.getD (eB V C ((y*S+q / K:Nat) - (P:Int)) ((x*S+q % K:Nat) - (P:Int)) c) 0,h8 _⟩] else I q:=fun q=>by rw [← F];rfl
 rw [F];have g:Below z w W0:=hW.mono be;obtain ⟨HL,GB,an,O,Q,BH,BW,BC⟩:=zh8 (hl.below g (fun b h=>h)) hb (show z≤W0.heap.size from lT be hW.size) (O.under g hb.1) (Q.under g hb.2.1) (BH.under g hb.2.2.1) (BW.under g hb.2.2.2.1) (BC.under g hb.2.2.2.2);obtain ⟨IX,HN,HK,HS,HP,al,XL,HJ⟩:=zh8 (fun (Z Y:Int) (w:World)=>fQ H V C Z Y c w h1 v1 c1 he hc) hn hk hs hp al XL (And.intro hJ bh);have HY:=zH hY;have n3:=O.o.cell 3;simp only [gX] at n3;rw [hk] at n3;obtain ⟨R,M⟩:∃ m,K*K=m:=⟨_,rfl⟩;have bd:(K:Int)*(K:Int)=(R:Int):=by rw [← M];simp
 have ct:R≤25:=by rw [← M];exact Nat.mul_le_mul k1.2 k1.2
 rw [M] at HY ⊢;have cn:IntKind.i64.wrap ((K:Int)*(K:Int))=(R:Int):=by rw [bd];exact wJ
 obtain ⟨cm,bD⟩:=k1;clear hl hn hk hs hp he M F hW g hJ bh hY hb be bd;rw [callsIn_wide];simp only [List.append_toArray,List.cons_append,List.nil_append];go_in;go_wp2;go_loopw [15] (fun ii wr=>∃ q:Nat,q≤R∧ii=.int .i64 q∧J (I q) wr∧Below z W0 wr∧W0.heap.size≤wr.heap.size) (fun ii _=>R - (intOf ii).toNat)
 case atStart=>exact ⟨0,zl _,rfl,by rw [XZ];exact h0,qB _ _,lR _⟩
 case round =>
  obtain ⟨q,hq,rfl,hj,t,bp⟩:=hrel;obtain ⟨Q,O,BH,BW,BC,HL,ah,HB⟩:=zh8 (Q.o.under t GB.o.2.1) (O.o.under t GB.o.1) (BH.o.under t GB.o.2.2.1) (BW.o.under t GB.o.2.2.2.1) (BC.o.under t GB.o.2.2.2.2) (HL.o.below t (fun b h=>h)) hj (And.intro t bp);clear hj t bp;by_cases cd:q < R
  ·have cf:(q:Int) < (R:Int):=oM;go_wp2_with fail;obtain ⟨T,ay⟩:∃ m,q / K=m:=⟨_,rfl⟩;obtain ⟨U,ax⟩:∃ m,q % K=m:=⟨_,rfl⟩;have co:T≤25:=by rw [← ay];exact lT (Nat.div_le_self _ _) oM
   have ci:U≤5:=by rw [← ax];exact lT (Nat.le_of_lt (Nat.mod_lt _ oM)) bD
   have ch:(K:Int) ≠ 0:=oM;have d1:(q:Int).tdiv (K:Int)=(T:Int):=by rw [← ay,Int.tdiv_eq_ediv_of_nonneg oM];simp
   have d2:(q:Int).tmod (K:Int)=(U:Int):=by rw [← ax,Int.tmod_eq_emod_of_nonneg oM];simp
   obtain ⟨N,bo⟩:∃ m,y*S=m:=⟨_,rfl⟩;have bO:(y:Int)*(S:Int)=(N:Int):=by rw [← bo];simp
   have cp:N≤4000:=by rw [← bo];exact Nat.mul_le_mul hy s1.2
   obtain ⟨xs,ba⟩:∃ m,x*S=m:=⟨_,rfl⟩;have bM:(x:Int)*(S:Int)=(xs:Int):=by rw [← ba];simp
   have cy:xs≤4000:=by rw [← ba];exact Nat.mul_le_mul hx s1.2
   obtain ⟨Z,bz⟩:∃ m:Int,((y*S+q / K:Nat):Int) - P=m:=⟨_,rfl⟩;obtain ⟨Y,bg⟩:∃ m:Int,((x*S+q % K:Nat):Int) - P=m:=⟨_,rfl⟩;have bA:(N:Int)+(T:Int) - (P:Int)=Z:=by rw [← bz,bo,ay];simp
   have bx:(xs:Int)+(U:Int) - (P:Int)=Y:=by rw [← bg,ba,ax];simp
   have g1:IntKind.i64.wrap ((y:Int)*(S:Int))=(N:Int):=by rw [bO];exact wJ
   have g2:IntKind.i64.wrap ((x:Int)*(S:Int))=(xs:Int):=by rw [bM];exact wJ
   have g3:IntKind.i64.wrap ((N:Int)+(T:Int))=(N:Int)+(T:Int):=wJ;have g4:IntKind.i64.wrap ((xs:Int)+(U:Int))=(xs:Int)+(U:Int):=wJ;have g5:IntKind.i64.wrap ((N:Int)+(T:Int) - (P:Int))=Z:=by rw [bA];exact wJ
   have g6:IntKind.i64.wrap ((xs:Int)+(U:Int) - (P:Int))=Y:=by rw [bx];exact wJ
   have g7:IntKind.i64.wrap (T:Int)=(T:Int):=wJ;have g8:IntKind.i64.wrap (U:Int)=(U:Int):=wJ;have t0:∀ q:Ext wr,q.1.cell? ⟨bT,0,none⟩=some (.int .i64 H):=fun q=>(Q.o.ext q).cell 0;have t1:∀ q:Ext wr,q.1.cell? ⟨bT,1,none⟩=some (.int .i64 V):=fun q=>(Q.o.ext q).cell 1;have t2:∀ q:Ext wr,q.1.cell? ⟨bT,2,none⟩=some (.int .i64 C):=fun q=>(Q.o.ext q).cell 2;have n3:∀ q:Ext wr,q.1.cell? ⟨bN,3,none⟩=some (.int .i64 K):=fun q=>by rw [← HK.o];exact (O.o.ext q).cell 3
   have n4:∀ q:Ext wr,q.1.cell? ⟨bN,4,none⟩=some (.int .i64 S):=fun q=>by rw [← HS.o];exact (O.o.ext q).cell 4
   have n5:∀ q:Ext wr,q.1.cell? ⟨bN,5,none⟩=some (.int .i64 P):=fun q=>by rw [← HP.o];exact (O.o.ext q).cell 5
   have u0:∀ q:Ext wr,q.1.cell? ⟨bH,0,none⟩=some (.int .i64 y):=fun q=>(BH.o.ext q).cell 0;have u1:∀ q:Ext wr,q.1.cell? ⟨bW,0,none⟩=some (.int .i64 x):=fun q=>(BW.o.ext q).cell 0;have u2:∀ q:Ext wr,q.1.cell? ⟨bC,0,none⟩=some (.int .i64 c):=fun q=>(BC.o.ext q).cell 0;have RG:=zH (fun q:Ext wr=>aB q (IX.o Z Y q.1));have D:=al.o q;rw [bz,bg] at D;have ca:=XL.o q;by_cases j:bY H V Z Y
   ·have bl:=j;unfold bY at bl;have G:=RG.o;simp only [if_pos j,qT j] at G;rw [if_pos j] at D;obtain ⟨ix,ac⟩:∃ m,eB V C Z Y c=m:=⟨_,rfl⟩;rw [ac] at G;simp only [ac] at D;have bc:ix < n:=by
     rw [← ac,HN.o];exact jE Z.toNat Y.toNat c H V C oM oM hc
    replace G:=zH G;obtain ⟨v8,bt⟩:∃ v:I8,(⟨l.getD ix 0,h8 ix⟩:I8)=v:=⟨_,rfl⟩;rw [bt] at D;have bb:l.getD ix 0=v8.1:=by rw [← bt]
    obtain ⟨HV,D⟩:=zh2 bb D;clear bt bb;refine am wr kM kM (qB _ _) ?_;repeat (go_big_quiet_step ((exact G.o _)))
    refine wpQuiet_nil ?_;rintro X ⟨⟨w3,L⟩,E⟩;obtain rfl:X=w3:=by first|exact E|exact E.symm
    have j3:J (I q) X:=HJ.o.1 _ _ _ none ah.o (oJ L) (fun r e=>by cases e);have b3:Below z W0 X:=HB.o.1.trans (L.mono (lT an.o HB.o.2));have s3:=L.size;obtain ⟨b,o,rfl,cr,-,cx,-⟩:=(HL.o.below (L.mono (lT an.o HB.o.2)) (fun b h=>h)).int_at ix bc;have tt:=(Q.o.fut L).cell 3;simp only [gX] at tt;clear t0 t1 t2 n3 n4 n5 u0 u1 u2 g1 g2 g3 g4 g5 g6 g7 g8 d1 d2;have ad:=D.o;obtain ⟨fn,ce,bB,bR,hy,hR⟩:=HY.o (I q) v8 X j3 oM;rw [HV.o] at cx;simp only [e8] at hy
    go_step
    go_step
    rw [← wpIn_wide (n:=m)]
    gi_wp2
    refine hR.mono ?_;rintro e w4 (⟨rfl,bs,bw⟩|⟨rfl,br⟩)
    ·gi_wp2
     go_wp2_with fail;have b4:=b3.trans bw;have s4:=bw.size;rw [← ad] at bs;exact ⟨⟨q+1,by omega,by go_num,bs,b4,by have:=HB.o.2;omega⟩,by simp [intOf];omega⟩
    ·gi_wp2
     refine bodyPost_ret (results_none rfl _ _ _) rfl ?_;exact ⟨⟨_,rfl⟩,.inr ⟨_,trivial,br⟩⟩
   ·have G:=RG.o;simp only [if_neg j,dF j] at G;rw [if_neg j] at D;replace G:=zH G;have D:=zH D;refine am wr kM kM (qB _ _) ?_;repeat (go_big_quiet_step ((exact G.o _)))
    refine wpQuiet_nil ?_;rintro X ⟨⟨w3,L⟩,E⟩;obtain rfl:X=w3:=by first|exact E|exact E.symm
    have j3:J (I q) X:=HJ.o.1 _ _ _ none ah.o (oJ L) (fun r e=>by cases e);have b3:Below z W0 X:=HB.o.1.trans (L.mono (lT an.o HB.o.2));have s3:=L.size;clear t0 t1 t2 n3 n4 n5 u0 u1 u2 g1 g2 g3 g4 g5 g6 g7 g8 d1 d2;have ad:=D.o;go_wp2_with fail;rw [← ad] at j3;exact ⟨⟨q+1,by omega,by go_num,j3,b3,by have:=HB.o.2;omega⟩,by simp [intOf];omega⟩
  ·obtain rfl:q=R:=oM;go_wp2_with fail;refine bodyPost_end (results_none rfl _ _ _) rfl ?_;exact ⟨⟨_,rfl⟩,.inl ⟨_,rfl,ah.o⟩⟩
def o8 (k m:Nat):Nat:=k / m+if m - k % m≤k % m then 1 else 0
def xc (s:Int) (m:Nat):Int:=if m=0 then 0 else if s < 0 then -(o8 s.natAbs m:Int) else (o8 s.natAbs m:Int)
theorem tZ (s:Int) (m:Nat) (w:World) (I:m≤1024) (J:-131072≤s) (K:s≤131072) :
  Calls prog 184 #[.int .i64 s,.int .i64 m] w fun e w'=>e=.returned (.int .i64 (xc s m))∧Below w w w':=by
 unfold xc;by_cases g:m=0
 ·rw [if_pos g];subst g;go_in;go_wp2;go_ret;exact ⟨rfl,qB _ _⟩
 rw [if_neg g];have L:¬ (m:Int) < 1:=oM;have M:¬ (m:Int)=0:=oM;obtain ⟨E,t⟩:∃ r:Int,(if s < 0 then -(o8 s.natAbs m:Int) else (o8 s.natAbs m:Int))=r:=⟨_,rfl⟩;rw [t];unfold o8 at t;by_cases x:s < 0
 ·rw [if_pos x] at t;obtain ⟨k,rfl⟩:∃ k:Nat,s=-(k:Int):=⟨s.natAbs,by omega⟩;rw [show (-(k:Int)).natAbs=k by omega] at t;obtain ⟨a,o⟩:∃ a,k / m=a:=⟨_,rfl⟩;obtain ⟨b,i⟩:∃ b,k % m=b:=⟨_,rfl⟩;have p:a≤k:=by rw [← o];exact Nat.div_le_self _ _
  have v:b < m:=by rw [← i];exact Nat.mod_lt _ oM
  have G:(-(k:Int)).tdiv (m:Int)=-(a:Int):=by rw [Int.neg_tdiv,Int.tdiv_eq_ediv_of_nonneg oM,← o];simp
  have z:(-(k:Int)).tmod (m:Int)=-(b:Int):=by rw [Int.neg_tmod,Int.tmod_eq_emod_of_nonneg oM,← i];simp
  have A:(k:Int).tdiv (m:Int)=(a:Int):=by rw [Int.tdiv_eq_ediv_of_nonneg oM,← o];simp
  have l:(k:Int).tmod (m:Int)=(b:Int):=by rw [Int.tmod_eq_emod_of_nonneg oM,← i];simp
  have B:(k:Int) / (m:Int)=(a:Int):=by rw [← o];simp
  have c:(k:Int) % (m:Int)=(b:Int):=by rw [← i];simp
  have H:IntKind.i64.wrap (-(a:Int))=-(a:Int):=wJ;have C:IntKind.i64.wrap (-(b:Int))=-(b:Int):=wJ;have D:IntKind.i64.wrap (a:Int)=(a:Int):=wJ;have f:IntKind.i64.wrap (b:Int)=(b:Int):=wJ;have y:IntKind.i64.wrap ((m:Int) - (b:Int))=(m:Int) - (b:Int):=wJ;rw [o,i] at t;clear o i;by_cases n:m - b≤b
  ·rw [if_pos n] at t;subst t;have j:(m:Int)+-(b:Int)≤(b:Int):=oM;have h:(m:Int) - (b:Int)≤(b:Int):=oM;have t3:¬ (0:Int) < -(b:Int):=oM;have F:-(b:Int) < 0:=oM;have q:0 < b:=oM;go_in;go_wp2_with fail;go_quiet (fail);go_wp2;go_ret;exact ⟨by show Ending.returned (.int .i64 _)=_;go_num,aI (qB _ _) _⟩
  ·rw [if_neg n,Nat.add_zero] at t;subst t;by_cases d:b=0
   ·subst d;have j:¬ (m:Int)≤0:=oM;have h:¬ m≤0:=oM;simp only [Int.natCast_zero,Int.neg_zero,Int.sub_zero,Int.ofNat_zero] at z l c C f y;go_in;go_wp2_with fail;go_quiet (fail);go_wp2;go_ret;exact ⟨rfl,aI (qB _ _) _⟩
   ·have j:¬ (m:Int)+-(b:Int)≤(b:Int):=oM;have h:¬ (m:Int) - (b:Int)≤(b:Int):=oM;have t3:¬ (0:Int) < -(b:Int):=oM;have F:-(b:Int) < 0:=oM;have q:0 < b:=oM;go_in;go_wp2_with fail;go_quiet (fail);go_wp2;go_ret;exact ⟨rfl,aI (qB _ _) _⟩
 ·rw [if_neg x] at t;obtain ⟨k,rfl⟩:∃ k:Nat,s=(k:Int):=⟨s.natAbs,by omega⟩;rw [show ((k:Int)).natAbs=k by omega] at t;obtain ⟨a,o⟩:∃ a,k / m=a:=⟨_,rfl⟩;obtain ⟨b,i⟩:∃ b,k % m=b:=⟨_,rfl⟩;have p:a≤k:=by rw [← o];exact Nat.div_le_self _ _
  have v:b < m:=by rw [← i];exact Nat.mod_lt _ oM
  have A:(k:Int).tdiv (m:Int)=(a:Int):=by rw [Int.tdiv_eq_ediv_of_nonneg oM,← o];simp
  have l:(k:Int).tmod (m:Int)=(b:Int):=by rw [Int.tmod_eq_emod_of_nonneg oM,← i];simp
  have B:(k:Int) / (m:Int)=(a:Int):=by rw [← o];simp
  have c:(k:Int) % (m:Int)=(b:Int):=by rw [← i];simp
  have D:IntKind.i64.wrap (a:Int)=(a:Int):=wJ;have f:IntKind.i64.wrap (b:Int)=(b:Int):=wJ;have y:IntKind.i64.wrap ((m:Int) - (b:Int))=(m:Int) - (b:Int):=wJ;rw [o,i] at t;clear o i;by_cases n:m - b≤b
  ·rw [if_pos n] at t;subst t;have h:(m:Int) - (b:Int)≤(b:Int):=oM;have q:0 < b:=oM;go_in;go_wp2_with fail;go_quiet (fail);go_wp2;go_ret;exact ⟨by show Ending.returned (.int .i64 _)=_;go_num,aI (qB _ _) _⟩
  ·rw [if_neg n,Nat.add_zero] at t;subst t;by_cases d:b=0
   ·subst d;have j:¬ (m:Int)≤0:=oM;have h:¬ m≤0:=oM;simp only [Int.natCast_zero,Int.neg_zero,Int.sub_zero,Int.ofNat_zero] at l c f y;go_in;go_wp2_with fail;go_quiet (fail);go_wp2;go_ret;exact ⟨rfl,aI (qB _ _) _⟩
   ·have h:¬ (m:Int) - (b:Int)≤(b:Int):=oM;have q:0 < b:=oM;have N:¬ (b:Int) < 0:=oM;go_in;go_wp2_with fail;go_quiet (fail);go_wp2;go_ret;exact ⟨rfl,aI (qB _ _) _⟩
end Go.Proofs.YtbecbfpoahhpnaaGreat
