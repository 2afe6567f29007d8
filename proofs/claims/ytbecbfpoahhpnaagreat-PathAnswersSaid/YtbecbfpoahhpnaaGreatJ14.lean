/- Sums by rows that are slid over (layer 16): the walk of lane.row. -/
import Derived.Test.YtbecbfpoahhpnaaGreatJ10
set_option linter.unusedVariables false
set_option linter.unusedSimpArgs false
set_option maxRecDepth 100000
set_option maxHeartbeats 16000000
namespace Go.Proofs.YtbecbfpoahhpnaaGreat
open Go.RowKit Go.ChangeShapes Go.WideShapes Fx Tryz
theorem oQ:EI prog 320 353 (.int .i16 0) 1 2:=⟨underlying320,by kernel_rfl,rfl,by decide⟩
def jX (H V C:Nat) (l:List Int) (za:Int) (P:Nat) (y:Int) (c k:Nat):List Int:=(List.range (V+2*P)).map fun j:Nat=>if P≤j∧j < P+k then px H V C l za y ((j:Int) - (P:Int)) c else 0
theorem xG (H V C:Nat) (l:List Int) (e:Int) (P:Nat) (y:Int) (c:Nat):jX H V C l e P y c 0=List.replicate (V+2*P) 0:=by
 unfold jX;apply List.ext_getElem sM;intro i t a;simp only [List.getElem_map,List.getElem_range,List.getElem_replicate];rw [if_neg oM]
theorem zP (H V C:Nat) (l:List Int) (e:Int) (P:Nat) (y:Int) (c:Nat) (h:y < 0 ∨ (H:Int)≤y):hX H V C l e P y c=List.replicate (V+2*P) 0:=by
 unfold hX;apply List.ext_getElem sM;intro i t a;simp only [List.getElem_map,List.getElem_range,List.getElem_replicate];unfold px;rw [if_neg oM]
theorem zM (H V C:Nat) (l:List Int) (e:Int) (P:Nat) (y:Int) (c:Nat):jX H V C l e P y c V=hX H V C l e P y c:=by
 unfold jX hX;apply List.ext_getElem sM;intro i t a;simp only [List.getElem_map,List.getElem_range];by_cases h:P≤i∧i < P+V
 ·rw [if_pos h]
 ·rw [if_neg h];unfold px;rw [if_neg oM]
theorem zQ (H V C:Nat) (l:List Int) (t:Int) (P:Nat) (y c k:Nat) (n:k < V) (s:y < H) :
  (jX H V C l t P y c k).set (k+P) (l.getD ((y*V+k)*C+c) 0 - t)=jX H V C l t P y c (k+1):=by
 unfold jX;apply List.ext_getElem sM;intro i a o;rw [List.getElem_set];simp only [List.getElem_map,List.getElem_range];by_cases e:k+P=i
 ·subst e;rw [if_pos rfl,if_pos oM];unfold px;rw [if_pos oM];have:(((k+P:Nat):Int) - (P:Int)).toNat=k:=oM;rw [this,Int.toNat_natCast]
 ·rw [if_neg e];by_cases h:P≤i∧i < P+k
  ·rw [if_pos h,if_pos oM]
  ·rw [if_neg h,if_neg oM]
theorem iD (n:Int):IntKind.i16.wrap n=(n+32768) % 65536 - 32768:=by
 unfold IntKind.wrap;simp [IntKind.bits,IntKind.signed];split <;> omega
theorem jE (y k c H V C:Nat) (a:y < H) (i:k < V) (o:c < C):(y*V+k)*C+c < H*V*C:=by
 have e:y*V+k < H*V:=by
  have:(y+1)*V≤H*V:=Nat.mul_le_mul_right V a;rw [Nat.succ_mul] at this;omega
 have t:(y*V+k+1)*C≤(H*V)*C:=Nat.mul_le_mul_right C e;rw [Nat.succ_mul] at t;omega
theorem Dh (H V C P:Nat) (A:QA) (n E:Nat) (l:List Int) (d:af) (W:QA) (nw cw:Nat) (B:QA) (nb cb:Nat) (h:Int) (c:Nat) (w:World)
  (hl:xA w A n E l) (hn:n=H*V*C) (bn:n≤1048576) (hV:V≤1048576) (hC:C≤1048576) (hp:d.p=P) (hP:P≤4) (hz:InK .i8 d.za) (hc:c < C) (hh:-100≤h) (bo:h≤2000000) (hH:H≤1048576) :
  Calls prog 238 #[.agg #[.int .i64 H,.int .i64 V,.int .i64 C,.slice A n E,.int .i64 d.kind,.int .i64 d.a,.int .i64 d.b,.int .i64 d.k,.int .i64 d.s,.int .i64 d.p,.int .i64 d.out,.int .i8 d.za,.int .i8 d.zb,.slice W nw cw,.slice B nb cb,.int .i32 d.qm,.int .i64 d.qs,.int .i8 d.qz,.int .i32 d.rm,.int .i64 d.rs,.int .i8 d.rz,.int .i8 d.lo,.int .i8 d.hi],.int .i64 h,.int .i64 c] w (RetSl (ab .i16) w (hX H V C l d.za P h c)):=by
 have r:=zW w;have f:=zH (Old.now hl);obtain ⟨w1,G,i,v,_,_,g,m,ay⟩:=bk2 w #[.int .i64 H,.int .i64 V,.int .i64 C,.slice A n E,.int .i64 d.kind,.int .i64 d.a,.int .i64 d.b,.int .i64 d.k,.int .i64 d.s,.int .i64 d.p,.int .i64 d.out,.int .i8 d.za,.int .i8 d.zb,.slice W nw cw,.slice B nb cb,.int .i32 d.qm,.int .i64 d.qs,.int .i8 d.qz,.int .i32 d.rm,.int .i64 d.rs,.int .i8 d.rz,.int .i8 d.lo,.int .i8 d.hi] 317 (sN H V C) 23;obtain ⟨r,f⟩:=uz2 ay r f;clear ay;have c0:w1.cell? ⟨w.heap.size,0,none⟩=some (.int .i64 H):=by rw [← i];exact (Blk.now _ _ _ _ rfl).cell 0
 have c1:w1.cell? ⟨w.heap.size,1,none⟩=some (.int .i64 V):=by rw [← i];exact (Blk.now _ _ _ _ rfl).cell 1
 have c2:w1.cell? ⟨w.heap.size,2,none⟩=some (.int .i64 C):=by rw [← i];exact (Blk.now _ _ _ _ rfl).cell 2
 have I:=g.o.cell 9;have d1:=m.o.cell 1;obtain ⟨LL,HN,HL,HP⟩:=zh4 (show w.heap.size < G.heap.size∧w1.heap.size < G.heap.size by rw [← v,← i];simp;omega) hn hl hp;rw [hp] at I;clear hn hh hp hl;have p1:(V:Int)≤1048576:=oM;have p2:(P:Int)≤4:=oM;by_cases M:0≤h∧h < (H:Int)
 ·obtain ⟨y,rfl⟩:∃ y:Nat,h=(y:Int):=⟨h.toNat,by omega⟩;have p3:(y:Int) < (H:Int):=M.2;have O:y < H:=oM;rw [← zM];have t1:decide ((y:Int) < 0)=false:=by simp
  have t2:decide ((H:Int)≤(y:Int))=false:=sO;have t3:decide (H≤y)=false:=sO;clear M;go_in;go_wp2_with fail;go_step3
  go_wp2_with (at_make;go_loud (refine wpList_make (t:=ab .i16) (S:=fun _=>False) (base:=w.heap.size) rfl _ _ rfl oQ .i64 .i64 _ _ (V+2*P) rfl rfl ?_ ?_ ?_ ?_ ?_ 0 ⟨rfl,by decide⟩ (fun _ h=>h.elim) ?_;rotate_right;intro w3 e j;(try rw [i] at j);(try rw [v] at j);have D:=zH e;have K:Below G G w3:=(qB _ _).grown j (lR _) sM;obtain ⟨r,m,g,f⟩:=uz4 K r m g f;obtain ⟨e0,e1⟩:=uc2 m 0 1;clear e j K i v c0 c1 c2 I d1))
  rotate_left
  ·omega
  ·omega
  ·omega
  ·unfold maxLen;omega
  ·exact r.o.size
  have ba:(y*V+0)*C+c < n ∨ V=0:=by
   by_cases h0:V=0
   ·exact .inr h0
   ·left;rw [HN.o];exact jE y 0 c H V C O oM hc
  rw [← xG H V C l d.za P y c] at D;go_loopw [9] (fun ii wr=>∃ k:Nat,k≤V∧ii=.int .i64 k∧Far w wr∧Old w (ab .i8) wr A n E l∧Blk wr w.heap.size 317 #[.int .i64 H,.int .i64 V,.int .i64 C,.slice A n E,.int .i64 d.kind,.int .i64 d.a,.int .i64 d.b,.int .i64 d.k,.int .i64 d.s,.int .i64 d.p,.int .i64 d.out,.int .i8 d.za,.int .i8 d.zb,.slice W nw cw,.slice B nb cb,.int .i32 d.qm,.int .i64 d.qs,.int .i8 d.qz,.int .i32 d.rm,.int .i64 d.rs,.int .i8 d.rz,.int .i8 d.lo,.int .i8 d.hi]∧Blk wr w1.heap.size 23 (sN H V C) ∧
   Own (ab .i16) wr (fun _=>False) w.heap.size 353 (.slice (some ⟨G.heap.size,0,none⟩) (V+2*P) (V+2*P)) (V+2*P) (jX H V C l d.za P y c k)) (fun ii _=>V - (intOf ii).toNat)
  case atStart=>exact ⟨0,zl _,rfl,r.o,f.o,g.o,m.o,D.o⟩
  case round =>
   obtain ⟨k,hk,rfl,hf,ac,an,ah,al⟩:=hrel;clear r f g m D e0 e1;obtain ⟨r,f,g,m,D⟩:=zh5 hf ac an ah al;clear hf ac an ah al;have s1:=m.o.cell 1;by_cases ad:k < V
   ·have hb:(y*V+k)*C+c < n:=by rw [HN.o];exact jE y k c H V C O ad hc
    have RS:=zH (zQ H V C l d.za P y c k ad O);obtain ⟨b',o',rfl,-,-,Q,iq⟩:=f.o.out.int_at _ hb;obtain ⟨T,N⟩:∃ x,l.getD ((y*V+k)*C+c) 0=x:=⟨_,rfl⟩;rw [N] at Q iq;rw [N] at RS;clear N;obtain ⟨z,F⟩:∃ z,d.za=z:=⟨_,rfl⟩;rw [F] at RS;have ax:=hz;rw [F,bj] at ax;rw [bj] at iq;obtain ⟨a0,c3,I,L⟩:=uc4 g 0 3 9 11;have s2:=m.o.cell 2;simp only [gX] at a0 c3 I L s1 s2;rw [HP.o] at I;rw [F] at L;have HZ:=zH F;obtain ⟨R,h1⟩:∃ q,y*V=q:=⟨_,rfl⟩;have Y:(y:Int)*(V:Int)=(R:Int):=by rw [← h1];simp
    rw [h1] at Q hb;obtain ⟨q2,h2⟩:∃ q,R+k=q:=⟨_,rfl⟩;rw [h2] at Q hb;obtain ⟨q3,h3⟩:∃ q,q2*C=q:=⟨_,rfl⟩;have Z:(q2:Int)*(C:Int)=(q3:Int):=by rw [← h3];simp
    have m1:q2≤q3:=by rw [← h3];exact Nat.le_mul_of_pos_right _ oM
    rw [h3] at Q hb;obtain ⟨q4,h4⟩:∃ q,q3+c=q:=⟨_,rfl⟩;rw [h4] at Q hb;have g1:IntKind.i64.wrap ((y:Int)*(V:Int))=(R:Int):=by rw [Y];exact wJ
    have g2:IntKind.i64.wrap ((R:Int)+(k:Int))=(q2:Int):=(wJ).trans oM;have X:IntKind.i64.wrap ((q2:Int)*(C:Int))=(q3:Int):=by rw [Z];exact wJ
    have g4:IntKind.i64.wrap ((q3:Int)+(c:Int))=(q4:Int):=(wJ).trans oM;have g5:IntKind.i64.wrap ((k:Int)+(P:Int))=((k+P:Nat):Int):=(wJ).trans oM;have g6:IntKind.i16.wrap T=T:=by rw [iD];omega
    have g7:IntKind.i16.wrap z=z:=by rw [iD];omega
    have g8:IntKind.i16.wrap (T - z)=T - z:=by rw [iD];omega
    have kp:k+P < V+2*P:=oM;clear F hz h1 h3 Y h2 Z h4;go_wp2_with fail;go_still_tail 28,kM;change wpList _ _ _ _ _ wr.drew;have kd:Below wr wr wr.drew:=(qB _ _).drew;have U:=D.o.below kd (lR _) (fun _ h=>h.elim);obtain ⟨r,f,g,m⟩:=uz4 kd r f g m;replace D:=zH U;clear U kd s1 s2 a0 c3 I L Q;generalize wr.drew=w5 at *;obtain ⟨x1,u1,-,-,c5,c6,c7,-⟩:=D.o.cell rfl (k+P) oM;go_wp2_with fail;obtain ⟨o3,X⟩:=D.o.set1 rfl (k+P) (.int .i16 (T - z)) (T - z) ⟨rfl,by simp only [InK,IntKind.min,IntKind.max,IntKind.signed,IntKind.bits];simp;omega⟩ (fun _ h=>h.elim);rw [HZ.o,RS.o] at o3;have be:=LL.o.1;have bt:=LL.o.2;have l3:w.heap.size≤G.heap.size:=o3.lt _ rfl |>.1
    exact ⟨⟨k+1,by omega,by go_num,r.o.away X l3,f.o.away X l3,g.o.away X (.inl be),m.o.away X (.inl bt),by rw [HZ.o];exact o3⟩,by simp [intOf];omega⟩
   ·obtain rfl:k=V:=oM;go_wp2_with fail;go_step3;go_wp2_with fail;rw [Exit.noGoto_ret];go_ret;exact D.o.ret dM r.u (fun _ h=>h.elim)
 ·have J:h < 0 ∨ (H:Int)≤h:=oM;rw [zP _ _ _ _ _ _ _ _ J];clear M;rcases J with R|R
  ·go_in;go_wp2_with fail;refine gE 0 rfl ?_
   go_wp2_with (at_make;go_loud (refine wpList_make (t:=ab .i16) (S:=fun _=>False) (base:=w.heap.size) rfl _ _ rfl oQ .i64 .i64 _ _ (V+2*P) rfl rfl ?_ ?_ ?_ ?_ ?_ 0 ⟨rfl,by decide⟩ (fun _ h=>h.elim) ?_;rotate_right;intro w3 e j;(try rw [i] at j);(try rw [v] at j);have D:=zH e;have K:Below G G w3:=(qB _ _).grown j (lR _) sM;obtain ⟨r,m,g,f⟩:=uz4 K r m g f;obtain ⟨e0,e1⟩:=uc2 m 0 1;clear e j K i v c0 c1 c2 I d1))
   rotate_left
   ·omega
   ·omega
   ·omega
   ·unfold maxLen;omega
   ·exact r.o.size
   go_step3;refine ⟨rfl,?_⟩;go_wp2_with fail;rw [Exit.noGoto_ret];go_ret;exact D.o.ret dM r.u (fun _ h=>h.elim)
  ·go_in;go_wp2_with fail;refine gE 0 rfl ?_
   go_wp2_with (at_make;go_loud (refine wpList_make (t:=ab .i16) (S:=fun _=>False) (base:=w.heap.size) rfl _ _ rfl oQ .i64 .i64 _ _ (V+2*P) rfl rfl ?_ ?_ ?_ ?_ ?_ 0 ⟨rfl,by decide⟩ (fun _ h=>h.elim) ?_;rotate_right;intro w3 e j;(try rw [i] at j);(try rw [v] at j);have D:=zH e;have K:Below G G w3:=(qB _ _).grown j (lR _) sM;obtain ⟨r,m,g,f⟩:=uz4 K r m g f;obtain ⟨e0,e1⟩:=uc2 m 0 1;clear e j K i v c0 c1 c2 I d1))
   rotate_left
   ·omega
   ·omega
   ·omega
   ·unfold maxLen;omega
   ·exact r.o.size
   go_step3;refine ⟨rfl,?_⟩;go_wp2_with fail;rw [Exit.noGoto_ret];go_ret;exact D.o.ret dM r.u (fun _ h=>h.elim)
def bY (H V:Nat) (y x:Int):Prop:=0≤y∧y < H∧0≤x∧x < V
instance (H V:Nat) (y x:Int):Decidable (bY H V y x):=by unfold bY;infer_instance
def eB (V C:Nat) (y x:Int) (c:Nat):Nat:=(y.toNat*V+x.toNat)*C+c
theorem fQ (H V C:Nat) (y x:Int) (c:Nat) (w:World) (M:1≤H∧H≤16) (J:1≤V∧V≤16) (I:1≤C∧C≤1024) (E:decide (0 < ag H V C)=true) (N:c < C) :
  Calls prog 215 #[.agg (sN H V C),.int .i64 y,.int .i64 x,.int .i64 c] w fun e w' =>
   e=.returned (.tuple #[.int .i64 (if bY H V y x then (eB V C y x c:Int) else 0),.bool (decide (bY H V y x))])∧Below w w w':=by
 have f:=zH (fun w=>aV (H:Int) (C:Int) (V:Int) w (by rw [ai];omega) (by rw [ai];omega) (by rw [ai];omega));rw [E] at f;have t:=zW w;obtain ⟨U,s,a,t⟩:=nF t (sN H V C) 23;obtain ⟨r,d,l⟩:=uc3 a 0 1 2;clear E;by_cases z:0≤y
 ·by_cases A:y < (H:Int)
  ·by_cases B:0≤x
   ·by_cases D:x < (V:Int)
    ·obtain ⟨p,rfl⟩:∃ m:Nat,y=m:=⟨y.toNat,by omega⟩;obtain ⟨v,rfl⟩:∃ m:Nat,x=m:=⟨x.toNat,by omega⟩;rw [if_pos ⟨z,A,B,D⟩,qT (show bY H V p v from ⟨z,A,B,D⟩)];unfold eB;simp only [Int.toNat_natCast];obtain ⟨j,b⟩:∃ m,p*V=m:=⟨_,rfl⟩;have O:(p:Int)*(V:Int)=(j:Int):=by rw [← b];simp
     have K:j≤256:=by rw [← b];exact Nat.mul_le_mul (show p≤16 by omega) J.2
     rw [b];obtain ⟨G,g⟩:∃ m,(j+v)*C=m:=⟨_,rfl⟩;have P:((j:Int)+(v:Int))*(C:Int)=(G:Int):=by rw [← g];simp
     have L:G≤272*1024:=by rw [← g];exact Nat.mul_le_mul oM I.2
     rw [g,Int.natCast_add];clear b g;have k:¬ (H:Int)≤(p:Int):=oM;have F:¬ (V:Int)≤(v:Int):=oM;have Q:¬ (C:Int)≤(c:Int):=oM;have R:¬ H≤p:=oM;have S:¬ V≤v:=oM;have T:¬ C≤c:=oM;go_in
     go_wp2_with (go_at_call 77;refine qM (f.o _) fun q n=>?_;obtain ⟨a,t⟩:=uz2 n a t;clear n s r d l;obtain ⟨r,d,l⟩:=uc3 a 0 1 2)
     go_ret2
     exact ⟨rfl,t.u⟩

    ·have i:¬ bY H V y x:=fun h=>absurd h.2.2.2 D;rw [if_neg i,dF i];clear i;have k:¬ (H:Int)≤y:=oM;have F:(V:Int)≤x:=oM;go_in
     go_wp2_with (go_at_call 77;refine qM (f.o _) fun q n=>?_;obtain ⟨a,t⟩:=uz2 n a t;clear n s r d l;obtain ⟨r,d,l⟩:=uc3 a 0 1 2)
     go_ret2
     exact ⟨rfl,t.u⟩
   ·have i:¬ bY H V y x:=fun h=>absurd h.2.2.1 B;rw [if_neg i,dF i];clear i;have k:¬ (H:Int)≤y:=oM;have F:x < 0:=oM;go_in
    go_wp2_with (go_at_call 77;refine qM (f.o _) fun q n=>?_;obtain ⟨a,t⟩:=uz2 n a t;clear n s r d l;obtain ⟨r,d,l⟩:=uc3 a 0 1 2)
    go_ret2
    exact ⟨rfl,t.u⟩
  ·have i:¬ bY H V y x:=fun h=>absurd h.2.1 A;rw [if_neg i,dF i];clear i;have k:(H:Int)≤y:=oM;go_in
   go_wp2_with (go_at_call 77;refine qM (f.o _) fun q n=>?_;obtain ⟨a,t⟩:=uz2 n a t;clear n s r d l;obtain ⟨r,d,l⟩:=uc3 a 0 1 2)
   go_ret2
   exact ⟨rfl,t.u⟩
 ·have i:¬ bY H V y x:=fun h=>absurd h.1 z;rw [if_neg i,dF i];clear i;have k:y < 0:=oM;go_in
  go_wp2_with (go_at_call 77;refine qM (f.o _) fun q n=>?_;obtain ⟨a,t⟩:=uz2 n a t;clear n s r d l;obtain ⟨r,d,l⟩:=uc3 a 0 1 2)
  go_ret2
  exact ⟨rfl,t.u⟩
end Go.Proofs.YtbecbfpoahhpnaaGreat
