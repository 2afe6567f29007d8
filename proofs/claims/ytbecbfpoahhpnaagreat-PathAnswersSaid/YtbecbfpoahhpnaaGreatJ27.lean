/- Which values a node takes (layer 27): takes, there, of; the document's There, second. -/
import Derived.Test.YtbecbfpoahhpnaaGreatJ25
import Derived.Test.YtbecbfpoahhpnaaGreatJ26
set_option linter.unusedVariables false
set_option linter.unusedSimpArgs false
set_option maxRecDepth 100000
set_option maxHeartbeats 16000000
namespace Go.Proofs.YtbecbfpoahhpnaaGreat
open Go.RowKit Go.ChangeShapes Go.WideShapes Tryz
def eR (d:af):List Int:=if d.kind=6 then [d.a,d.b] else [d.a]
def ar (d:af):Int:=if d.kind=6 then d.b else d.a
def bi (d:af) (many:Int):Bool:=decide (0≤d.a∧d.a < many) && (decide (d.kind ≠ 6) || decide (0≤d.b∧d.b < many))
theorem mr (d:af) (W:QA) (nw l:Nat) (B:QA) (nb cb:Nat) (w:World) (c:InK .i64 d.a) (m:InK .i64 d.b) :
  Calls prog 114 #[.agg (nD d W nw l B nb cb)] w (RetSl (ab .i64) w (eR d)):=by
 have i:=zW w;obtain ⟨s,h,f,i⟩:=nF i (nD d W nw l B nb cb) 84;obtain ⟨v,g,k⟩:=uc3 f 0 1 2;have n:w.heap.size≤s.heap.size:=by rw [← h];simp
 obtain ⟨r,y⟩:=zh2 c m;clear c m;unfold eR;by_cases e:d.kind=6
 ·have p:(d.kind == 6)=true:=by simpa using e
  rw [if_pos e];clear e;go_in;go_wp2;go_ret;refine ⟨some ⟨s.heap.size,0,none⟩,2,2,rfl,Sl.lit [d.a,d.b] (kV _ _ _ rfl) rfl (by intro x t;simp at t;rcases t with rfl|rfl;exact r.o;exact y.o) ⟨n,by simp⟩ rfl rfl (by simp [maxLen]),i.u.alloc n _⟩
 ·have p:(d.kind == 6)=false:=by simpa using e
  rw [if_neg e];clear e;go_in;go_wp2;go_ret;refine ⟨some ⟨s.heap.size,0,none⟩,1,1,rfl,Sl.lit [d.a] (kV _ _ _ rfl) rfl (by intro x t;simp at t;subst t;exact r.o) ⟨n,by simp⟩ rfl rfl (by simp [maxLen]),i.u.alloc n _⟩
theorem Ea (d:af) (W:QA) (nw p:Nat) (B:QA) (nb cb:Nat) (w:World) (v:InK .i64 d.a) (t:InK .i64 d.b) :
  Calls prog 109 #[.agg (nD d W nw p B nb cb)] w fun e w'=>e=.returned (.int .i64 (ar d))∧Below w w w':=by
 obtain ⟨r,s⟩:∃ r,ar d=r:=⟨_,rfl⟩;rw [s];have l:=zH (fun w=>mr d W nw p B nb cb w v t);have i:=zW w;obtain ⟨j,c,g,i⟩:=nF i (nD d W nw p B nb cb) 84;unfold eR at l;unfold ar at s;by_cases m:d.kind=6
 ·rw [if_pos m] at l s;have R:=zH s;clear m s v t;go_in
  go_wp2_with (refine lG g.o ?_)
  refine (l.o _).mono ?_;rintro e k ⟨A,n,y,rfl,h,t⟩;obtain rfl:n=2:=h.n_eq.symm;obtain ⟨b,off,rfl,_,_,f,_⟩:=h.int_at 1 dM;rw [show [d.a,d.b].getD 1 0=d.b from rfl] at f;replace i:=zF t i;clear t;clear h c;go_wp2;go_ret;exact ⟨by rw [← R.o];rfl,i.u⟩
 ·rw [if_neg m] at l s;have R:=zH s;clear m s v t;go_in
  go_wp2_with (refine lG g.o ?_)
  refine (l.o _).mono ?_;rintro e k ⟨A,n,y,rfl,h,t⟩;obtain rfl:n=1:=h.n_eq.symm;obtain ⟨b,off,rfl,_,_,f,_⟩:=h.int_at 0 dM;rw [show [d.a].getD 0 0=d.a from rfl,Nat.add_zero] at f;replace i:=zF t i;clear t;clear h c;go_wp2;go_ret;exact ⟨by rw [← R.o];rfl,i.u⟩
theorem ry (d:af) (W:QA) (nw D:Nat) (B:QA) (nb cb:Nat) (t:Int) (w:World) (Q:InK .i64 d.a) (s:InK .i64 d.b) :
  Calls prog 107 #[.agg (nD d W nw D B nb cb),.int .i64 t] w fun e w'=>e=.returned (.bool (bi d t))∧Below w w w':=by
 obtain ⟨r,q⟩:∃ r,bi d t=r:=⟨_,rfl⟩;rw [q];have C:=zH (fun w=>mr d W nw D B nb cb w Q s);have c:=zW w;obtain ⟨w1,L,U,c⟩:=nF c (nD d W nw D B nb cb) 84;obtain ⟨l,F⟩:∃ l,eR d=l:=⟨_,rfl⟩;rw [F] at C;have R:=zH (show (r=true ↔ ∀ j,j < l.length → 0≤l.getD j 0∧l.getD j 0 < t)∧l.length≤2 by
  rw [← q,← F];unfold bi eR;by_cases z:d.kind=6
  ·rw [if_pos z];refine ⟨?_,by simp⟩;simp only [z,Bool.and_eq_true,Bool.or_eq_true,decide_eq_true_eq,ne_eq,not_true_eq_false,false_or];constructor
   ·intro h j f
    match j,f with
    | 0,_=>exact h.1
    | 1,_=>exact h.2
   ·intro h;exact ⟨h 0 sM,h 1 sM⟩
  ·rw [if_neg z];refine ⟨?_,by simp⟩;simp only [z,Bool.and_eq_true,Bool.or_eq_true,decide_eq_true_eq,ne_eq,not_false_eq_true,true_or,and_true];constructor
   ·intro h j f
    match j,f with
    | 0,_=>exact h
   ·intro h;exact h 0 sM)
 clear F q Q s;go_in
 go_wp2_with (refine lG U.o ?_)
 refine (C.o _).mono ?_;rintro e T ⟨A,n,Z,rfl,J,s⟩;have H:=J.n_eq;have V:=zH J;have I:=R.o.2;rw [H] at I;replace c:=zF s c;clear s;have M:=zH H;clear J L C H;go_wp2;go_loopw [10] (fun i wr=>∃ k:Nat,k≤n∧i=.int .i64 k∧Below T T wr∧∀ j,j < k → 0≤l.getD j 0∧l.getD j 0 < t) (fun i _=>n - (intOf i).toNat)
 case atStart=>exact ⟨0,zl _,rfl,qB _ _,fun j f=>absurd f (Nat.not_lt_zero _)⟩
 case round =>
  obtain ⟨k,hk,rfl,s,S⟩:=hrel;obtain ⟨N,y⟩:=zh2 S s;clear S s;by_cases m:k < n
  ·obtain ⟨b,off,rfl,_,_,Y,_⟩:=(V.o.below y.o (fun _ h=>h.2)).int_at k m;have p1:(k:Int) < (n:Int):=oM;obtain ⟨x,K⟩:∃ x,l.getD k 0=x:=⟨_,rfl⟩;rw [K] at Y;have O:=zH K;clear K;by_cases g:0≤x∧x < t
   ·have v:decide (x < 0)=false:=sO;have g2:decide (t≤x)=false:=sO;have G:=zH g;clear g;go_wp2_with fail;refine ⟨⟨k+1,by omega,by go_num,y.o,fun j f=>?_⟩,by simp [intOf];omega⟩;by_cases E:j < k
    ·exact N.o j E
    ·obtain rfl:j=k:=oM;rw [O.o];exact G.o
   ·have P:r=false:=by
     cases q:r with
     | false=>rfl
     | true =>
      have h:=R.o.1.1 q k (by rw [M.o];exact m);rw [O.o] at h;exact absurd h g
    have p:=zH P;clear P;by_cases v:x < 0
    ·have t1:decide (x < 0)=true:=qT v;clear g v;go_wp2;go_ret;exact ⟨by rw [p.o];rfl,aa y.o c.u⟩
    ·have t1:decide (x < 0)=false:=dF v;have t2:decide (t≤x)=true:=sO;clear g v;go_wp2;go_ret;exact ⟨by rw [p.o];rfl,aa y.o c.u⟩
  ·obtain rfl:k=n:=oM;have X:=zH (R.o.1.2 (by rw [M.o];exact N.o));clear m hk;go_wp2;go_ret;exact ⟨by rw [X.o];rfl,aa y.o c.u⟩
theorem xI (d:af) (W:QA) (nw n:Nat) (B:QA) (nb cb:Nat) (w:World) :
  Calls prog 76 #[.agg (nD d W nw n B nb cb)] w fun e w'=>e=.returned (.int .i64 (ar d))∧Below w w w':=by
 obtain ⟨r,t⟩:∃ r,ar d=r:=⟨_,rfl⟩;rw [t];unfold ar at t;have i:=zW w;obtain ⟨y,l,s,i⟩:=nF i (nD d W nw n B nb cb) 84;obtain ⟨c,m,f⟩:=uc3 s 0 1 2;by_cases a:d.kind=6
 ·have h:(d.kind == 6)=true:=by simpa using a
  rw [if_pos a] at t;have R:=zH t;clear a t;go_in;go_wp2;go_ret;exact ⟨by rw [← R.o];rfl,i.u⟩
 ·have h:(d.kind == 6)=false:=by simpa using a
  rw [if_neg a] at t;have R:=zH t;clear a t;go_in;go_wp2;go_ret;exact ⟨by rw [← R.o];rfl,i.u⟩
theorem pC (d:af) (W:QA) (nw f:Nat) (B:QA) (nb cb:Nat) (t:Int) (w:World) :
  Calls prog 74 #[.agg (nD d W nw f B nb cb),.int .i64 t] w fun e w'=>e=.returned (.bool (bi d t))∧Below w w w':=by
 obtain ⟨r,i⟩:∃ r,bi d t=r:=⟨_,rfl⟩;rw [i];unfold bi at i;have s:=zW w;obtain ⟨A,j,y,s⟩:=nF s (nD d W nw f B nb cb) 84;obtain ⟨q,x,z⟩:=uc3 y 0 1 2;by_cases h:0≤d.a;rotate_left
 ·have p:decide (0≤d.a)=false:=dF h;have R:=zH (show r=false by rw [← i];simp;omega);clear i h;go_in;go_wp2;go_ret;exact ⟨by rw [R.o];rfl,s.u⟩
 have p:decide (0≤d.a)=true:=qT h;by_cases l:d.a < t;rotate_left
 ·have v:decide (d.a < t)=false:=dF l;have R:=zH (show r=false by rw [← i];simp;omega);clear i h l;go_in;go_wp2;go_ret;exact ⟨by rw [R.o];rfl,s.u⟩
 have v:decide (d.a < t)=true:=qT l;by_cases n:d.kind=6;rotate_left
 ·have t3:(d.kind != 6)=true:=by simpa using n
  have R:=zH (show r=true by rw [← i];simp [n];omega);clear i h l n;go_in;go_wp2;go_ret;exact ⟨by rw [R.o];rfl,s.u⟩
 have t3:(d.kind != 6)=false:=by simpa using n
 by_cases c:0≤d.b;rotate_left
 ·have g:decide (0≤d.b)=false:=dF c;have R:=zH (show r=false by rw [← i];simp [n];omega);clear i h l n c;go_in;go_wp2;go_ret;exact ⟨by rw [R.o];rfl,s.u⟩
 have g:decide (0≤d.b)=true:=qT c;by_cases m:d.b < t
 ·have k:decide (d.b < t)=true:=qT m;have R:=zH (show r=true by rw [← i];simp [n];omega);clear i h l n c m;go_in;go_wp2;go_ret;exact ⟨by rw [R.o];rfl,s.u⟩
 ·have k:decide (d.b < t)=false:=dF m;have R:=zH (show r=false by rw [← i];simp [n];omega);clear i h l n c m;go_in;go_wp2;go_ret;exact ⟨by rw [R.o];rfl,s.u⟩
abbrev Sh3:=Int × Int × Int
theorem Sl.shape_at {w:World} {S:Nat → Prop} {A:QA} {n t:Nat} {l:List Sh3} (h:Sl dg w S A n t l) (i:Nat) (hi:i < n) :
  ∃ b off,A=some ⟨b,off,none⟩∧S b∧b < w.heap.size∧InK .i64 (l.getD i (0,0,0)).1∧InK .i64 (l.getD i (0,0,0)).2.1∧InK .i64 (l.getD i (0,0,0)).2.2∧l[i]?=some (l.getD i (0,0,0)) ∧
   w.rangeAt b (off+i*3) [.int .i64 (l.getD i (0,0,0)).1,.int .i64 (l.getD i (0,0,0)).2.1,.int .i64 (l.getD i (0,0,0)).2.2]:=by
 obtain ⟨x,b,off,xs,a,d,c,m,y,g,f⟩:=h.cells i hi dM;obtain ⟨_,_,rfl,⟨rfl,o⟩,_,_,rfl,⟨rfl,s⟩,rfl,r⟩:=y;have e:l.getD i (0,0,0)=x:=by rw [gD,a];rfl
 rw [e];refine ⟨b,off,d,c,m,o,s,r,a,fun j v p=>?_⟩;have:=f j v p;rwa [show dg.size=3 from rfl,← Nat.add_assoc] at this
def bP (d:af) (l:List Sh3):ShE :=
 if bu d ≠ 0 then noS (bu d) else if bi d l.length=false then noS 8
 else aE (l.getD d.a.toNat (0,0,0)).1 (l.getD d.a.toNat (0,0,0)).2.1 (l.getD d.a.toNat (0,0,0)).2.2 (l.getD (ar d).toNat (0,0,0)).1 (l.getD (ar d).toNat (0,0,0)).2.1 (l.getD (ar d).toNat (0,0,0)).2.2 d
theorem kP {d:af} (h:bu d=0):1≤d.kind∧d.kind≤9:=by
 unfold bu at h;by_cases e:dP d.kind
 ·exact e
 ·rw [if_pos e] at h;cases h
theorem fJ {d:af} {n:Int} (h:bi d n=true):0≤d.a∧d.a < n∧0≤ar d∧ar d < n:=by
 unfold bi at h;unfold ar;simp only [Bool.and_eq_true,Bool.or_eq_true,decide_eq_true_eq] at h;split <;> omega
theorem Br (d:af) (W:QA) (nw D:Nat) (B:QA) (nb cb:Nat) (A:QA) (n U:Nat) (l:List Sh3) (w:World) (P:aQ d) (hw:xA w W nw D d.w) (t:xB w B nb cb d.bias) (mw:nw≤1048576) (mb:nb≤1048576) (g:Sl dg w (blo w) A n U l) :
  Calls prog 84 #[.agg (nD d W nw D B nb cb),.slice A n U] w fun e w'=>e=aY (bP d l)∧Below w w w':=by
 have hn:=g.n_eq;have hm:n≤9223372036854775807:=lT g.cap_le g.max_le;obtain ⟨r,Z⟩:∃ r,bP d l=r:=⟨_,rfl⟩;rw [Z];unfold bP at Z;rw [hn] at Z;obtain ⟨T,TH,OF,HW,HB,HS,HD,KD⟩:=zh8 (fun (w':World) (V:Below w w w')=>kY d W nw D B nb cb w' (hw.later V (lR _)) (t.later V (lR _)) mw mb) (fun w=>ry d W nw D B nb cb n w P.a P.b) (fun w=>Ea d W nw D B nb cb w P.a P.b) hw.n_eq t.n_eq g P (kP (d:=d));obtain ⟨TB,E⟩:=zh2 (fJ (d:=d) (n:=n)) Z.symm;clear Z hw t g P hn;obtain ⟨ck,X⟩:∃ x,bu d=x:=⟨_,rfl⟩;obtain ⟨th,ah⟩:∃ x,bi d n=x:=⟨_,rfl⟩;rw [X] at T KD E;rw [ah] at TH TB E;clear X ah;have c:=zW w;obtain ⟨w1,w2,L,M,l1,l2,m,f,ac⟩:=bk2 w (nD d W nw D B nb cb) 84 (sN 0 0 0) 23;replace c:=zF ac c;clear ac;by_cases c1:ck=0;rotate_left
 ·have t1:(ck != 0)=true:=by simpa using c1
  have R:=zH (show r=noS ck by rw [E.o,if_pos c1]);clear c1 E;go_in
  go_wp2_with (refine lG m.o ?_)
  clear L M;refine qM (T.o _ c.u) fun w3 t=>?_;obtain ⟨c,m,f⟩:=uz3 t c m f;clear t
  go_wp2_with (refine sG (sN 0 0 0) f.o ?_;intro w7 q O)
  refine rG q ?_;exact ⟨by rw [R.o];rfl,(c.o.away O oM).out⟩
 subst c1;have t1:((0:Int) != 0)=false:=rfl;cases th with
 | false =>
  have R:=zH (show r=noS 8 by rw [E.o,if_neg dM,if_pos rfl]);clear E;go_in
  go_wp2_with (refine lG m.o ?_)
  clear L M;refine qM (T.o _ c.u) fun w3 t=>?_;obtain ⟨c,m,f⟩:=uz3 t c m f;clear t
  go_wp2_with (refine lG m.o ?_)
  refine qM (TH.o _) fun w4 t=>?_;obtain ⟨c,m,f⟩:=uz3 t c m f;clear t
  go_wp2_with (refine sG (sN 0 0 0) f.o ?_;intro w7 q O)
  refine rG q ?_;exact ⟨by rw [R.o];rfl,(c.o.away O oM).out⟩
 | true =>
  obtain ⟨p1,p2,p3,p4⟩:=TB.o rfl;have hk:=KD.o rfl;obtain ⟨G,Y⟩:∃ G,d.a.toNat=G:=⟨_,rfl⟩;obtain ⟨H,I⟩:∃ H,(ar d).toNat=H:=⟨_,rfl⟩;obtain ⟨b0,C,rfl,_,_,k1,k2,k3,_,q1⟩:=HS.o.shape_at G oM;obtain ⟨be,J,e0,_,_,k4,k5,k6,_,q2⟩:=HS.o.shape_at H oM;obtain ⟨rfl,rfl⟩:b0=be∧C=J:=by simpa using e0
  have N:=zH (show r=aE (l.getD G (0,0,0)).1 (l.getD G (0,0,0)).2.1 (l.getD G (0,0,0)).2.2 (l.getD H (0,0,0)).1 (l.getD H (0,0,0)).2.1 (l.getD H (0,0,0)).2.2 d by rw [E.o,if_neg dM,if_neg dM,Y,I]);obtain ⟨⟨x,y,z⟩,hx⟩:∃ s,l.getD G (0,0,0)=s:=⟨_,rfl⟩;obtain ⟨⟨x',y',z'⟩,ad⟩:∃ s,l.getD H (0,0,0)=s:=⟨_,rfl⟩;rw [hx] at q1 k1 k2 k3 N;rw [ad] at q2 k4 k5 k6 N;simp only at q1 q2 k1 k2 k3 k4 k5 k6 N;obtain ⟨Q1,Q2⟩:=zh2 q1 q2;obtain ⟨sc,an⟩:∃ s,ar d=s:=⟨_,rfl⟩;rw [an] at p3 p4 OF I;have KS:=zH (fun w=>o6 x y z x' y' z' d W nw D B nb cb w k1 k2 k3 HD.o.out HD.o.p HW.o.symm HB.o.symm mw mb hk);obtain ⟨⟨⟨x1,x2,x3⟩,xe⟩,al⟩:∃ s,aE x y z x' y' z' d=s:=⟨_,rfl⟩;rw [al] at KS N;simp only [aY] at KS;have R:=zH N.o;clear E N hx ad al an k1 k2 k3 k4 k5 k6 q1 q2 e0 hk KD TB HD;go_in
  go_wp2_with (refine lG m.o ?_)
  clear L M;refine qM (T.o _ c.u) fun w3 t=>?_;obtain ⟨c,m,f⟩:=uz3 t c m f;clear t
  go_wp2_with (refine lG m.o ?_)
  refine qM (TH.o _) fun w4 t=>?_;obtain ⟨c,m,f⟩:=uz3 t c m f;clear t;clear T TH;go_wp2_with fail;refine wp_region_held_drew (S:=fun w'=>w'.cell? ⟨w.heap.size,1,none⟩=some (.int .i64 d.a)∧Blk w' w.heap.size 84 (nD d W nw D B nb cb)∧Below w w w') kM ?_ (fun i=>?_)
  ·exact ⟨m.o.drew.cell 1,m.o.drew,c.u.drew⟩
  refine tkH 0 rfl (yP (nD d W nw D B nb cb) (fun w g=>g.2.1)) i ?_;try simp only [pX]
  refine kH' 1 i ?_;refine kH' 2 i ?_;refine kH' 3 i ?_;refine kH' 4 i ?_;refine tkH 5 rfl (yieldsIf_load_mid (by rfl) 23 (.tmp 23) rfl b0 (C+G*3) (by rw [← Y];rfl) _ _ (fun w g j v hv=>au g.2.2 (Q1.o j v hv)) underlying23 rfl kM) i ?_;try simp only [pX]
  refine kH' 6 i ?_;refine tkH 7 rfl (yP (nD d W nw D B nb cb) (fun w g=>g.2.1)) i ?_;try simp only [pX]
  refine rH 8 rfl (fun K F=>?_);go_simp;refine qM (OF.o _) fun w5 t=>?_;have ay:=zH (f.o.drew.later t);refine xK F (zR t i) fun i=>?_;clear F K;refine kH' 9 i ?_;refine tkH 10 rfl (yieldsIf_load_mid (by rfl) 23 (.tmp 28) rfl b0 (C+H*3) (by rw [← I];rfl) _ _ (fun w g j v hv=>au g.2.2 (Q2.o j v hv)) underlying23 rfl kM) i ?_;try simp only [pX]
  refine rH 11 rfl (fun K F=>?_);go_simp;refine qM (KS.o _) fun w6 t=>?_;have ax:=zH (ay.o.later t);refine xK F (zR t i) fun i=>?_;clear F K;refine kH' 12 i ?_;refine kH' 13 i ?_;refine rH 14 rfl (fun K F=>?_)
  (rw [if_pos (by rfl)];refine oG (sN x1 x2 x3) ax.o ?_;intro w7 q O;have Q:=i.2.1.away O oM;refine F.out _ _ ⟨Q.cell 1,Q,i.2.2.grown O i.2.2.size (fun k h=>by have:=sI h;omega)⟩ (fun i=>?_))
  clear F K;try simp only [pX]
  refine kH' 15 i ?_;refine wpAnyH_done kM ?_ _;have FZ:=i.2.2;go_wp2_with fail;refine rG q ?_;exact ⟨by rw [R.o];rfl,FZ⟩
structure dp (x:Sh3):Prop where
 h:1≤x.1∧x.1≤1024
 v:1≤x.2.1∧x.2.1≤1024
 c:1≤x.2.2∧x.2.2≤1024
theorem dp.of {h v c:Int} (e:¬ ag h v c=0):dp (h,v,c):=by
 have:=eX e;exact ⟨by simp only;omega,by simp only;omega,by simp only;omega⟩
theorem ks {h v c k s p o:Int} (e:(aH h v c k s p o).2=0):dp (aH h v c k s p o).1:=by
 unfold aH at *;by_cases i:ag h v c=0
 ·rw [if_pos i] at e;cases e
 rw [if_neg i] at e ⊢;by_cases t:(aK h k s p).2 ≠ 0
 ·rw [if_pos t] at e;exact absurd e t
 rw [if_neg t] at e ⊢;by_cases a:(aK v k s p).2 ≠ 0
 ·rw [if_pos a] at e;exact absurd e a
 rw [if_neg a] at e ⊢;by_cases c4:ag (aK h k s p).1 (aK v k s p).1 o=0
 ·rw [if_pos c4] at e;cases e
 rw [if_neg c4];exact .of c4
theorem qQ {x:ShE} {t out:Int} {d:af} (i:x.2=0 → dp x.1) (e:(gI x t out d).2=0):dp (gI x t out d).1:=by
 unfold gI at *;by_cases a:x.2 ≠ 0
 ·rw [if_pos a] at e;exact absurd e a
 rw [if_neg a] at e ⊢;by_cases o:¬ (d.w.length:Int)=t ∨ 16384 < d.w.length ∨ ¬ (d.bias.length:Int)=out
 ·rw [if_pos o] at e;cases e
 rw [if_neg o] at e ⊢;exact i e
theorem uT {h v c:Int} {d:af} (e:(d9 h v c d).2=0):dp (d9 h v c d).1:=by
 unfold d9 at *;by_cases t:ag h v c=0 ∨ ag 1 1 d.out=0
 ·rw [if_pos t] at e;cases e
 rw [if_neg t] at e ⊢;by_cases a:¬ (d.w.length:Int)=d.out*ag h v c ∨ 16384 < d.w.length ∨ ¬ (d.bias.length:Int)=d.out
 ·rw [if_pos a] at e;cases e
 rw [if_neg a];exact .of (fun h=>t (.inr h))
theorem sY {h v c p:Int} (e:(dt h v c p).2=0):dp (dt h v c p).1:=by
 unfold dt at *;by_cases a:p < 0 ∨ 4 < p
 ·rw [if_pos a] at e;cases e
 rw [if_neg a] at e ⊢;by_cases t:ag (h+2*p) (v+2*p) c=0
 ·rw [if_pos t] at e;cases e
 rw [if_neg t];exact .of t
theorem vw {k h v c o i a p:Int} (e:(cG k h v c o i a p).2=0):dp (cG k h v c o i a p).1:=by
 unfold cG at *;by_cases t:ag h v c=0
 ·rw [if_pos t] at e;cases e
 rw [if_neg t] at e ⊢;by_cases q:k=6∧([h,v,c] == [o,i,a])=false
 ·rw [if_pos q] at e;cases e
 rw [if_neg q] at e ⊢;by_cases n:k=8
 ·rw [if_pos n] at e ⊢;exact sY e
 rw [if_neg n] at e ⊢;by_cases s:k=9
 ·rw [if_pos s];have:=aF h v c;exact ⟨by simp only;omega,by simp only;omega,by simp only;omega⟩
 rw [if_neg s];exact .of t
theorem nE {h v c a n t:Int} {d:af} (e:(aE h v c a n t d).2=0):dp (aE h v c a n t d).1:=by
 unfold aE at *;by_cases k1:d.kind=1
 ·rw [if_pos k1] at e ⊢;exact qQ ks e
 rw [if_neg k1] at e ⊢;by_cases k2:d.kind=2
 ·rw [if_pos k2] at e ⊢;exact qQ ks e
 rw [if_neg k2] at e ⊢;by_cases o:d.kind=3
 ·rw [if_pos o] at e ⊢;exact uT e
 rw [if_neg o] at e ⊢;by_cases i:d.kind=4 ∨ d.kind=5
 ·rw [if_pos i] at e ⊢;exact ks e
 rw [if_neg i] at e ⊢;exact vw e
theorem ld {d:af} {l:List Sh3} (e:(bP d l).2=0):dp (bP d l).1:=by
 unfold bP at *;by_cases t:bu d ≠ 0
 ·rw [if_pos t] at e;exact absurd e t
 rw [if_neg t] at e ⊢;by_cases a:bi d l.length=false
 ·rw [if_pos a] at e;cases e
 rw [if_neg a] at e ⊢;exact nE e
theorem dp.rep {w:World} {S:Nat → Prop} {x y z:Int} (h:dp (x,y,z)):dg.rep w S [.int .i64 x,.int .i64 y,.int .i64 z] (x,y,z):=by
 have e:=h.h;have t:=h.v;have a:=h.c;simp only at e t a;exact ⟨_,_,rfl,⟨rfl,by rw [ai];simp only;omega⟩,_,_,rfl,⟨rfl,by rw [ai];simp only;omega⟩,rfl,by rw [ai];simp only;omega⟩
inductive Run where
 | on (out:List Sh3)
 | bad (i:Nat) (e:Int)
def aM:af:=⟨0,0,0,0,0,0,0,0,0,[],[],0,0,0,0,0,0,0,0⟩
def bS (l:List af) (s:Sh3):Nat → Run
 | 0=>.on [s]
 | k+1=>match bS l s k with
  | .on out=>if (bP (l.getD k aM) out).2 ≠ 0 then .bad k (bP (l.getD k aM) out).2 else .on (out ++ [(bP (l.getD k aM) out).1])
  | .bad i e=>.bad i e
def tw (n:Nat):Run → List Sh3 × Int × Int
 | .on out=>(out,(n:Int),0)
 | .bad i e=>([],(i:Int),e)
def ao (l:List af) (s:Sh3):List Sh3 × Int × Int :=
 if ag s.1 s.2.1 s.2.2=0 then ([],-1,5) else if l.length=0 then ([],-1,12) else if 8 < l.length then ([],-1,4)
 else tw l.length (bS l s l.length)
theorem ls {l : List af} {s : Sh3} {k i : Nat} {e : Int} (h : bS l s k = .bad i e) : ∀ m, k ≤ m → bS l s m = .bad i e := by
  intro m hm
  induction m with
  | zero => obtain rfl : k = 0 := by omega
            exact h
  | succ m ih =>
    by_cases hk : k = m + 1
    · subst hk; exact h
    · have := ih oM
      show (match bS l s m with | .on out => _ | .bad i e => _) = _
      rw [this]
theorem rk {l:List af} {s:Sh3} {k:Nat} {out:List Sh3} {d:af} (h:bS l s k=.on out) (t:l[k]?=some d) :
  bS l s (k+1)=if (bP d out).2 ≠ 0 then .bad k (bP d out).2 else .on (out ++ [(bP d out).1]):=by
 have e:l.getD k aM=d:=by rw [gD,t];rfl
 show (match bS l s k with|.on out=>_|.bad i e=>_)=_;rw [h];simp only [e]
end Go.Proofs.YtbecbfpoahhpnaaGreat
namespace Go.Proofs.YtbecbfpoahhpnaaGreat
open Tryz
theorem iI {d:af} {l:List Sh3} (e:(bP d l).2=0):bi d l.length=true:=by
 unfold bP at e;by_cases t:bu d ≠ 0
 ·rw [if_pos t] at e;exact absurd e t
 rw [if_neg t] at e;by_cases a:bi d l.length=false
 ·rw [if_pos a] at e;cases e
 simpa using a
structure El (l:List af) (k:Nat) (out:List Sh3):Prop where
 len:out.length=k+1
 there:∀ i,i < k → bi (l.getD i aM) ((i:Int)+1)=true
theorem gO {l:List af} {s:Sh3} (k:Nat):∀ {out:List Sh3},bS l s k=.on out → El l k out:=by
 induction k with
 | zero=>intro out h;cases h;exact ⟨rfl,fun i hi=>absurd hi (Nat.not_lt_zero _)⟩
 | succ k ih =>
  intro out h;unfold bS at h;cases n:bS l s k with
  | bad i e=>rw [n] at h;cases h
  | on o =>
   rw [n] at h;have a:=ih n;simp only at h;by_cases c:(bP (l.getD k aM) o).2=0
   ·rw [if_neg (by simpa using c)] at h;cases h;have r:=iI c;refine ⟨by simp [a.len],fun i hi=>?_⟩;by_cases t:i < k
    ·exact a.there i t
    ·obtain rfl:i=k:=oM;rw [a.len] at r;simpa using r
   ·rw [if_pos c] at h;cases h
theorem jK {l:List af} {s:Sh3} (k:Nat):∀ {i:Nat} {e:Int},bS l s k=.bad i e → e ≠ 0:=by
 induction k with
 | zero=>intro i e h;cases h
 | succ k ih =>
  intro i e h;unfold bS at h;cases t:bS l s k with
  | bad i' e'=>rw [t] at h;cases h;exact ih t
  | on o =>
   rw [t] at h;simp only at h;by_cases c:(bP (l.getD k aM) o).2=0
   ·rw [if_neg (by simpa using c)] at h;cases h
   ·rw [if_pos c] at h;cases h;exact c
structure eH (l:List af) (s:Sh3) (sl:List Sh3) (p:Int):Prop where
 len:sl.length=l.length+1
 at_:p=(l.length:Int)
 few:l.length≤8
 there:∀ i,i < l.length → bi (l.getD i aM) ((i:Int)+1)=true
theorem ly {l:List af} {s:Sh3} {sl:List Sh3} {p:Int} (h:ao l s=(sl,p,0)):eH l s sl p:=by
 unfold ao at h;by_cases a:ag s.1 s.2.1 s.2.2=0
 ·rw [if_pos a] at h;simp at h
 rw [if_neg a] at h;by_cases o:l.length=0
 ·rw [if_pos o] at h;simp at h
 rw [if_neg o] at h;by_cases n:8 < l.length
 ·rw [if_pos n] at h;simp at h
 rw [if_neg n] at h;cases t:bS l s l.length with
 | on out =>
  rw [t] at h;simp only [tw,Prod.mk.injEq] at h;obtain ⟨rfl,rfl,_⟩:=h;have:=gO _ t;exact ⟨this.len,rfl,by omega,this.there⟩
 | bad i e =>
  rw [t] at h;simp only [tw,Prod.mk.injEq] at h;exact absurd h.2.2 (jK _ t)
end Go.Proofs.YtbecbfpoahhpnaaGreat
namespace Go.Proofs.YtbecbfpoahhpnaaGreat
open Go.RowKit Go.ChangeShapes Go.WideShapes Tryz
theorem xR:di.size=19:=rfl
theorem Sl.node_at {w:World} {S:Nat → Prop} {A:QA} {n t:Nat} {l:List af} (h:Sl di w S A n t l) (i:Nat) (hi:i < n) :
  ∃ d b off W nw e B nb cb,l[i]?=some d∧A=some ⟨b,off,none⟩∧S b∧b < w.heap.size∧aQ d∧Sl (ab .i8) w S W nw e d.w∧Sl (ab .i32) w S B nb cb d.bias∧w.rangeAt b (off+i*19) [.int .i64 d.kind,.int .i64 d.a,.int .i64 d.b,.int .i64 d.k,.int .i64 d.s,.int .i64 d.p,.int .i64 d.out,.int .i8 d.za,.int .i8 d.zb,.slice W nw e,.slice B nb cb,.int .i32 d.qm,.int .i64 d.qs,.int .i8 d.qz,.int .i32 d.rm,.int .i64 d.rs,.int .i8 d.rz,.int .i8 d.lo,.int .i8 d.hi]:=by
 obtain ⟨d,b,off,xs,z,m,f,y,q,C,o⟩:=h.cells i hi dM;obtain ⟨W,nw,e,B,nb,cb,rfl,g,r,c⟩:=qX q;rw [xR] at o;exact ⟨d,b,off,W,nw,e,B,nb,cb,z,m,f,y,g,r,c,fun j v x=>by have:=o j v x;rwa [← Nat.add_assoc] at this⟩
theorem eW:EI prog 95 23 (.agg (sN 0 0 0)) 3 24:=⟨underlying95,by kernel_rfl,rfl,by decide⟩
theorem Own.one {α:Type} {t:Ty α} {W:World} {S:Nat → Prop} {E:TypeId} {base:Nat} {cs:Array Value} {x:α} (o:base≤W.heap.size) (a:t.rep (W.alloc (.cells cs E)) S cs.toList x) :
  Own t (W.alloc (.cells cs E)) S base E (.slice (some ⟨W.heap.size,0,none⟩) 1 1) 1 [x] :=
 have e:=t.len a
 ⟨cs.toList,⟨by simp [e],.inr ⟨_,1,cs,rfl,o,heap_alloc_new _ _,lR _,by decide,by simpa using e,by rw [List.take_of_length_le oM]⟩⟩,RowsOf.one a⟩
def bv (x:List Sh3 × Int × Int) (w:World) (e:Ending) (w':World):Prop :=
 ∃ A m cap,e=.returned (.tuple #[.slice A m cap,.int .i64 x.2.1,.int .i64 x.2.2])∧Sl dg w' (bin w w') A m cap x.1∧Below w w w'
theorem bv.none {i e:Int} {w w':World} (t:Below w w w'):bv ([],i,e) w (.returned (.tuple #[.slice none 0 0,.int .i64 i,.int .i64 e])) w' :=
 ⟨Option.none,0,0,rfl,Sl.nil _ _ _,t⟩
theorem hZ (A:QA) (n V:Nat) (l:List af) (h v c:Int) (w:World) (hs:Sl di w (blo w) A n V l) (i0:InK .i64 h) (i1:InK .i64 v) (i2:InK .i64 c) (hf:∀ d ∈ l,d.w.length≤1000∧d.bias.length≤100) :
  Calls prog 57 #[.slice A n V,.agg (sN h v c)] w (bv (ao l (h,v,c)) w):=by
 have hn:=hs.n_eq;obtain ⟨r,N⟩:∃ r,ao l (h,v,c)=r:=⟨_,rfl⟩;rw [N];unfold ao at N;simp only [hn] at N;have L:=zH (fun w=>aV h c v w i0 i1 i2);have m0:=(aF h v c).1;have GS:=zH (dp.of (h:=h) (v:=v) (c:=c));obtain ⟨m,hm⟩:∃ m,ag h v c=m:=⟨_,rfl⟩;rw [hm] at N L m0 GS;obtain ⟨D,H,HF⟩:=zh3 N.symm hs hf;have al:n≤9223372036854775807:=lT hs.cap_le hs.max_le;clear N hm hs hf i0 i1 i2 hn;have s:=zW w;obtain ⟨w1,q,f,s⟩:=nF s (sN h v c) 23;have l1:=zL q;by_cases y:m=0
 ·have t1:decide (0 < m)=false:=sO;have R:=zH (show r=([],-1,5) by rw [D.o,if_pos y]);clear y D;go_in
  go_wp2_with (refine lG f.o ?_)
  clear q;refine qM (L.o _) fun w2 a=>?_;obtain ⟨s,f⟩:=uz2 a s f;clear a;go_wp2
  go_ret3
  rw [R.o];exact bv.none s.u
 have t1:decide (0 < m)=true:=sO;have good:=zH (GS.o y);by_cases M:n=0
 ·have t2:((n:Int) == 0)=true:=sO;have R:=zH (show r=([],-1,12) by rw [D.o,if_neg y,if_pos M]);clear y M D;go_in
  go_wp2_with (refine lG f.o ?_)
  clear q;refine qM (L.o _) fun w2 a=>?_;obtain ⟨s,f⟩:=uz2 a s f;clear a;go_wp2
  go_ret3
  rw [R.o];exact bv.none s.u
 have t2:((n:Int) == 0)=false:=sO;by_cases c3:8 < n
 ·have t3:decide (8 < (n:Int))=true:=sO;have R:=zH (show r=([],-1,4) by rw [D.o,if_neg y,if_neg M,if_pos c3]);clear y M c3 D;go_in
  go_wp2_with (refine lG f.o ?_)
  clear q;refine qM (L.o _) fun w2 a=>?_;obtain ⟨s,f⟩:=uz2 a s f;clear a;go_wp2
  go_ret3
  rw [R.o];exact bv.none s.u
 have t3:decide (8 < (n:Int))=false:=sO;have ay:n≤8:=oM;have V2:=zH (show r=tw n (bS l (h,v,c) n) by rw [D.o,if_neg y,if_neg M,if_neg c3]);clear y M c3 D GS;go_in
 go_wp2_with (refine lG f.o ?_)
 clear q;refine qM (L.o _) fun w2 a=>?_;obtain ⟨s,f⟩:=uz2 a s f;clear a;clear L
 go_wp2_with (first
  | (refine lG f.o ?_)
  | (refine cJ rfl (.tmp 24) rfl eW (sN h v c) rfl rfl dM ?_))
 have z2:=s.o.size;go_loopw [7,28] (fun u i wr=>∃ (k:Nat) (out:List Sh3),k≤n∧i=.int .i64 k∧bS l (h,v,c) k=.on out∧Own dg wr (fun _=>False) w.heap.size 23 u (k+1) out∧Below w w wr) (fun _ i _=>n - (intOf i).toNat)
 case atStart=>exact ⟨0,[(h,v,c)],zl _,rfl,rfl,Own.one z2 good.out.rep,s.u.alloc z2 _⟩
 case round =>
  clear s f z2 t1 t2 t3;obtain ⟨k,out,hk,rfl,F,p,a⟩:=hrel;obtain ⟨G,ON,HR⟩:=zh3 a p F;obtain ⟨A1,y,rfl,sl⟩:=p.sl (S':=bin w wr) dM (fun b h1 h2=>⟨h1,h2⟩) (fun _ h=>h.elim);have SL:=zH sl;clear a p F sl;by_cases Z:k < n
  ·have p1:(k:Int) < (n:Int):=oM;obtain ⟨d,b0,off,W,nw,cw,B,nb,cb,hd,rfl,_,_,Y,I,g,an⟩:=(H.o.below G.o (fun _ h=>h)).node_at k Z;have ax:=HF.o d (mG hd);have z:=rk HR.o hd;have q8:=I.n_eq;have be:=g.n_eq;obtain ⟨RG,ad,HW,T,NG⟩:=zh5 an Y (I.more (dV G.o.size)) (g.more (dV G.o.size)) (ld (d:=d) (l:=out));obtain ⟨⟨⟨O,P,Q⟩,xe⟩,hx⟩:∃ x,bP d out=x:=⟨_,rfl⟩;rw [hx] at z NG;simp only at z;obtain ⟨U,HX⟩:=zh2 z hx;clear hd Y I g an z hx;have zr:=G.o.size
   go_wp2_with (first
    | (refine wpList_load_mid rfl 84 (.tmp 31) rfl b0 (off+k*19) rfl _ _ RG.o underlying84 rfl kM ?_)
    | (refine sG (nD d W nw cw B nb cb) (Blk.now _ _ _ _ rfl) ?_;intro w7 B7 g7;have J:=zH (show Below wr wr w7 from ((qB _ _).alloc (lR _) _).grown g7 sM (fun k h=>by have:=sI h;omega));have BD:=zH B7;clear B7 g7)
    | (refine lG BD.o ?_))
   have z7:=J.o.size;refine (Br d W nw cw B nb cb A1 (k+1) y out w7 ad.o (HW.o.later J.o (lR _)) (T.o.later J.o (lR _)) oM oM ((SL.o.more pN).later J.o (lR _))).mono ?_;rintro e w8 ⟨he,a⟩;rw [HX.o] at he;simp only [aY] at he;subst he;obtain ⟨G8,O8⟩:=zh2 (aa a J.o) ((ON.o.below J.o (lR _) (fun _ h=>h.elim)).below a (lR _) (fun _ h=>h.elim));have z8:=a.size;clear a HX;by_cases C:xe=0
   ·subst C;have t4:((0:Int) != 0)=false:=rfl;have gx:=zH (NG.o rfl);rw [if_neg dM] at U;clear NG
    go_wp2_with (first
     | (refine sG (sN O P Q) (Blk.now _ _ _ _ rfl) ?_;intro w9 B9 X;have K:=zH (show Below w8 w8 w9 from ((qB _ _).alloc (lR _) _).grown X sM (fun k h=>by have:=sI h;omega));have BX:=zH B9;clear B9 X)
     | (refine lG BX.o ?_)
     | (refine cJ rfl (.tmp 44) rfl eW (sN O P Q) rfl rfl dM ?_)
     | (at_builtin;refine wpList_push (W:=w9) (cs:=(sN O P Q)) (E:=23) (t:=dg) (S:=fun _=>False) (base:=w.heap.size) rfl (.tmp 43) (.tmp 45) rfl eW rfl (O8.o.below K.o (lR _) (fun _ h=>h.elim)) 1 rfl (O,P,Q) gx.out.rep mL oM (by have:=K.o.size;omega) (fun _ h=>h.elim) ?_;intro v' wz ah gz ac))
    have bz:=(aa K.o (aa G8.o G.o)).grown gz (by have:=K.o.size;omega) (fun j hj=>(O8.o.lt j hj).1);exact ⟨⟨k+1,out ++ [(O,P,Q)],by omega,by go_num,U.o,ah,bz⟩,by simp [intOf];omega⟩
   ·have t4:(xe != 0)=true:=by simpa using C
    rw [if_pos C] at U;have R:=zH (show r=([],(k:Int),xe) by rw [V2.o,ls U.o n oM];rfl);clear C NG U V2
    go_wp2_with (refine sG (sN O P Q) (Blk.now _ _ _ _ rfl) ?_;intro w9 B9 X;have K:=zH (show Below w8 w8 w9 from ((qB _ _).alloc (lR _) _).grown X sM (fun k h=>by have:=sI h;omega));clear B9 X)
    go_ret3
    rw [R.o];exact bv.none (aa K.o (aa G8.o G.o))
  ·obtain rfl:k=n:=oM;have R:=zH (show r=(out,(k:Int),0) by rw [V2.o,HR.o];rfl);clear Z hk V2;go_wp2
   go_ret3
   rw [R.o];exact ⟨A1,_,y,rfl,SL.o,G.o⟩
theorem ns (W:QA) (nw h:Nat) (B:QA) (nb cb:Nat) (w:World) (l:nw≤maxLen) (d:nb≤maxLen) :
  Calls prog 93 #[.slice W nw h,.slice B nb cb] w fun e w'=>e=.returned (.bool (decide (0 < nb) && decide (nw % nb=0)))∧Below w w w':=by
 unfold maxLen at l d;by_cases r:nb=0
 ·subst r;go_in;go_wp2;go_ret;exact ⟨rfl,qB _ _⟩
 have y:(nb:Int) ≠ 0:=oM;have f:decide ((0:Int) < (nb:Int))=true:=sO;have i:decide (0 < nb)=true:=sO;obtain ⟨a,t⟩:∃ x,nw % nb=x:=⟨_,rfl⟩;have c:(nw:Int).tmod (nb:Int)=(a:Int):=by rw [← t,Int.tmod_eq_emod_of_nonneg oM];simp
 have n:a < nb:=by rw [← t];exact Nat.mod_lt _ oM
 have m:IntKind.i64.wrap (a:Int)=(a:Int):=wJ;have s:=zH (show (decide (0 < nb) && decide (nw % nb=0))=((a:Int) == 0) by rw [i,t,Bool.true_and,Bool.eq_iff_iff];simp);clear t i;go_in;go_wp2;go_ret;rw [s.o];exact ⟨rfl,qB _ _⟩
def jb (L:List (Int × Int)) (k:Nat):Int × Int:=if k=0 then (0,0) else eK (L.take k) (L.getD 0 (0,0))
theorem Cg {L:List (Int × Int)} {r:Int × Int} (h:L[0]?=some r):jb L 1=r:=by
 have e:L.take 1=[r]:=by cases L with|nil=>cases h|cons x l=>injection h with h;subst h;rfl
 have t:L.getD 0 (0,0)=r:=by rw [gD,h];rfl
 unfold jb;rw [if_neg dM,e,t];show (min r.1 r.1,max r.2 r.2)=r;obtain ⟨a,b⟩:=r;simp only;congr 1 <;> omega
theorem zU {L:List (Int × Int)} {k:Nat} {r:Int × Int} (h:L[k]?=some r) (e:k ≠ 0):jb L (k+1)=(min (jb L k).1 r.1,max (jb L k).2 r.2):=by
 unfold jb;rw [if_neg oM,if_neg e,bG L k r h,oK]
theorem Cf {L:List (Int × Int)} {n:Nat} (h:L.length=n) (e:n ≠ 0):jb L n=ey L:=by
 unfold jb ey;rw [if_neg e,List.take_of_length_le oM]
theorem rf (W:QA) (nw h:Nat) (n:List Int) (B:QA) (nb cb:Nat) (s:List Int) (lo hi z:Int) (gaps:Bool) (w:World) (D:xA w W nw h n) (hb:xB w B nb cb s)
  (hz:InK .i8 z) (I:InK .i8 lo) (H:InK .i8 hi) (mw:nw≤16384) (mb:nb≤16384) (ah:1≤nw) (h0:nb ≠ 0) (d:nw % nb=0) :
  Calls prog 94 #[.slice W nw h,.slice B nb cb,.int .i8 lo,.int .i8 hi,.int .i8 z,.bool gaps] w fun e w'=>e=.returned (.tuple #[.int .i64 (ey (eU n s lo hi z gaps)).1,.int .i64 (ey (eU n s lo hi z gaps)).2,.bool (dc (eU n s lo hi z gaps))])∧Below w w w':=by
 obtain ⟨T,X⟩:=zh2 (Old.now hb) (Old.now D);have Q:=hb.n_eq;have F:=D.n_eq;have C:=zW w;have z0:(nb:Int) ≠ 0:=oM;obtain ⟨E,f⟩:∃ x,nw / nb=x:=⟨_,rfl⟩;have q1:(nw:Int).tdiv (nb:Int)=(E:Int):=by rw [← f];exact Int.tdiv_eq_ediv_of_nonneg oM
 have q2:(nw:Int) / (nb:Int)=(E:Int):=by rw [← f];simp
 have ac:1≤E:=by rw [← f];exact Nat.div_pos (Nat.le_of_dvd ah (Nat.dvd_of_mod_eq_zero d)) oM
 have ay:E≤nw:=by rw [← f];exact Nat.div_le_self _ _
 have q3:IntKind.i64.wrap (E:Int)=(E:Int):=wJ;have N:=zH (oH (lo:=lo) (hi:=hi) (z:=z) (gaps:=gaps) (show ¬ s.length=0 by rw [Q];exact h0) (show n.length % s.length=0 by rw [F,Q];exact d));rw [Q,F,f] at N;have RL:=zH (fun o (ho:o < nb)=>uh (w:=n) (nb:=nb) (o:=o) (by rw [F];exact d) ho);rw [F,f] at RL;obtain ⟨L,Z⟩:∃ L,eU n s lo hi z gaps=L:=⟨_,rfl⟩;rw [Z] at N;have LN:=zH (show L.length=nb by rw [N.o];simp);obtain ⟨RA,O⟩:=zh2 (Cf LN.o h0) (vc L);obtain ⟨bw,ow,hA,-,-,-,-⟩:=D.int_at 0 oM;subst hA;obtain ⟨HZ,V,U⟩:=zh3 hz I H;have al:nw≤h:=D.cap_le;have ad:h≤9223372036854775807:=D.max_le;rw [Z];clear D hb Q F d f hz I H Z;go_in;go_wp2;go_loopw [15,16,18] (fun u v ii wr=>∃ k:Nat,k≤nb∧ii=.int .i64 k∧u=.int .i64 (jb L k).1∧v=.int .i64 (jb L k).2∧Below w w wr) (fun _ _ ii _=>nb - (intOf ii).toNat)
 case atStart=>exact ⟨0,zl _,rfl,rfl,rfl,C.u⟩
 case round =>
  obtain ⟨k,hk,rfl,rfl,rfl,hg⟩:=hrel;obtain ⟨T,X,C⟩:=uz3 hg T X C;clear hg;by_cases j:k < nb
  ·have p1:(k:Int) < (nb:Int):=oM;obtain ⟨bz,oz,rfl,-,-,Y,ix⟩:=T.o.out.int_at k j;obtain ⟨v1,v2⟩:=RL.o k j;obtain ⟨p,hp⟩:∃ p:Nat,k*E=p:=⟨_,rfl⟩;have A:(k:Int)*(E:Int)=(p:Int):=by rw [← hp];simp
   have K:((k:Int)+1)*(E:Int)=(p:Int)+(E:Int):=by rw [Int.add_mul,A];simp
   rw [hp] at v2;have f1:IntKind.i64.wrap ((k:Int)*(E:Int))=(p:Int):=by rw [A];exact wJ
   have f2:IntKind.i64.wrap ((k:Int)+1)=(k:Int)+1:=wJ;obtain ⟨S,J⟩:∃ x:Nat,p+E=x:=⟨_,rfl⟩;have f3:IntKind.i64.wrap (((k:Int)+1)*(E:Int))=(S:Int):=by rw [K,← J];exact (wJ).trans sM
   have s1:p≤S:=oM;have s2:S≤h:=oM;have s3:S - p=E:=oM;have s4:¬ h=p:=oM;have ia:InK .i32 (s.getD k 0):=ix;have P:=zH (show L[k]?=some (aL (s.getD k 0) lo hi z gaps (fw n E k)) by rw [N.o,List.getElem?_map,List.getElem?_range j];rfl);obtain ⟨x,hx⟩:∃ x,s.getD k 0=x:=⟨_,rfl⟩;rw [hx] at Y ia P;have R:=zH (fun w' (an:xA w' (some ⟨bw,ow,none⟩) nw h n)=>ui (some ⟨bw,ow+p,none⟩) E (h - p) (fw n E k) x lo hi z gaps w' (by unfold fw;rw [hp];exact an.sub p E p (h - p) (by simp [ab]) oM oM oM) oM ia V.o U.o HZ.o);obtain ⟨⟨l,c⟩,hy⟩:∃ r,aL x lo hi z gaps (fw n E k)=r:=⟨_,rfl⟩;rw [hy] at R P;simp only at R;have E1:=zH (fun q:Ext wr=>aB q (R.o q.1 (X.o.all.later q.2 (lR _))));have C1:∀ q:Ext wr,q.1.cell? ⟨bz,oz+k,none⟩=some (.int .i32 x):=fun q=>gH Y q;clear ix hx hy A K v1 J v2 R Y
   go_upto_region 6 with fail
   (try simp only [Act.put])
   refine am wr kM kM (qB _ _) ?_;repeat (go_big_quiet_step (exact E1.o _))
   refine wpQuiet_nil ?_;rintro _ ⟨⟨wa,G⟩,rfl⟩;have FA:=zH (C.o.fut G);clear G C1 E1;by_cases i:k=0
   ·have m:=zH (show jb L (k+1)=(l,c) by subst i;exact Cg P.o);have M:((k:Int) == 0)=true:=by simp [i]
    have m1:(if l < l then l else l)=l:=by simp
    have m2:(if c < c then c else c)=c:=by simp
    have m8:min l l=l:=Int.min_self l
    have m9:max c c=c:=Int.max_self c
    clear i;go_wp2;exact ⟨⟨k+1,by omega,by go_num,by rw [m.o],by rw [m.o],FA.o.out⟩,by simp [intOf];omega⟩
   ·have m:=zH (zU P.o i);have M:((k:Int) == 0)=false:=by simp [i]
    obtain ⟨⟨a,b⟩,t⟩:∃ r,jb L k=r:=⟨_,rfl⟩;rw [t] at m;simp only [t] at m ⊢;obtain ⟨a',y⟩:∃ r,min a l=r:=⟨_,rfl⟩;obtain ⟨b',g⟩:∃ r,max b c=r:=⟨_,rfl⟩;have m1:(if l < a then l else a)=a':=by rw [mnI,y]
    have m19:min a l=a':=(mnI a l).symm.trans m1
    have m2:(if b < c then c else b)=b':=by rw [mxI,g]
    have m29:max b c=b':=(mxI b c).symm.trans m2
    rw [y,g] at m;clear t y g;go_wp2;exact ⟨⟨k+1,by omega,by go_num,by rw [m.o],by rw [m.o],FA.o.out⟩,by simp [intOf];omega⟩
  ·obtain rfl:k=nb:=oM;rw [RA.o];obtain ⟨⟨a,b⟩,t⟩:∃ r,ey L=r:=⟨_,rfl⟩;rw [t] at O;simp only [t] at O ⊢;have RB:=zH t;clear t RA;by_cases ha:-2147483648≤a
   ·have M:decide (-2147483648≤a)=true:=by simpa using ha
    go_wp2
    go_ret3
    refine ⟨?_,C.u⟩;rw [RB.o,O.o,M];rfl
   ·have M:decide (-2147483648≤a)=false:=by simpa using ha
    go_wp2
    go_ret3
    refine ⟨?_,C.u⟩;rw [RB.o,O.o,M];rfl
structure Hd where
 w:List Int
 bias:List Int
 need:Int
def tHd:Ty Hd:=tMap (fun (x:List Int × List Int × Int)=>⟨x.1,x.2.1,x.2.2⟩) (tPair (tSlice (ab .i8)) (tPair (tSlice (ab .i32)) (ab .i32)))
theorem CZ {w:World} {S:Nat → Prop} {cs:List Value} {d:Hd} (h:tHd.rep w S cs d) :
  ∃ W nw e B nb cb,cs=[.slice W nw e,.slice B nb cb,.int .i32 d.need]∧InK .i32 d.need∧Sl (ab .i8) w S W nw e d.w∧Sl (ab .i32) w S B nb cb d.bias:=by
 obtain ⟨⟨a,b,c⟩,rfl,_,_,rfl,s,_,_,rfl,i,rfl,n⟩:=h;obtain ⟨W,e,rfl,o⟩:=aZ.1 s;obtain ⟨B,cb,rfl,t⟩:=aZ.1 i;exact ⟨W,_,e,B,_,cb,rfl,n,o,t⟩
theorem Bt:Opens prog 49 tHd:=iS _ (dQ underlying49 kM (aA rfl lX (aA rfl pg (dd rfl qY))))
def aU (m:Int) (nw nb:Nat) (need cl:Int):Int :=
 if m=0 then 5 else if cl < 2 ∨ 16 < cl then 2 else if (nw:Int) ≠ cl*m ∨ 16384 < nw ∨ (nb:Int) ≠ cl then 9 else if need < 0 then 11 else 0
theorem jS (h v c:Int):0≤ag h v c∧ag h v c≤1024:=by
 rw [cO];split
 ·rename_i e;refine ⟨?_,e.2.2.2.2.2.2⟩;exact Int.mul_nonneg (Int.mul_nonneg oM oM) oM
 ·omega
theorem lK (h v c:Int) (W:QA) (nw G:Nat) (B:QA) (nb cb:Nat) (need cl:Int) (w:World) (O:InK .i64 h) (P:InK .i64 v) (Q:InK .i64 c) (L:nw≤maxLen) (K:nb≤maxLen) (J:InK .i64 cl) :
  Calls prog 65 #[.agg (sN h v c),.agg #[.slice W nw G,.slice B nb cb,.int .i32 need],.int .i64 cl] w fun e w' =>
   e=.returned (.int .i64 (aU (ag h v c) nw nb need cl))∧Below w w w':=by
 have H:=zH (And.intro O (And.intro P Q));unfold maxLen at L K;rw [ai] at J;clear O P Q;obtain ⟨S,T⟩:=jS h v c;have y:=zH (fun w=>bL h c v w H.o.1 H.o.2.1 H.o.2.2);generalize ag h v c=m at *;have t:=zW w;obtain ⟨w1,w2,s,r,_,_,R,l,D⟩:=bk2 w (sN h v c) 23 #[.slice W nw G,.slice B nb cb,.int .i32 need] 49;replace t:=zF D t;clear D;have x:=fun i=>R.o.cell i;have f:=fun i=>l.o.cell i;by_cases z:m=0
 ·subst z;have C:=zH (show (5:Int)=aU 0 nw nb need cl by unfold aU;rw [if_pos rfl]);go_in;go_wp2_with fail;clear s r;refine qM (y.o _) fun b n=>?_;replace t:=zF n t;clear n;go_wp2;go_ret;exact ⟨bK C.o,t.u⟩
 have Z:(m == 0)=false:=by simp;exact z
 by_cases q:cl < 2
 ·have V:decide (cl < 2)=true:=by simp;exact q
  have C:=zH (show (2:Int)=aU m nw nb need cl by unfold aU;rw [if_neg z,if_pos (.inl q)]);clear z q;go_in;go_wp2_with fail;clear s r;refine qM (y.o _) fun b n=>?_;replace t:=zF n t;clear n;go_wp2;go_ret;exact ⟨bK C.o,t.u⟩
 have V:decide (cl < 2)=false:=sO;by_cases F:16 < cl
 ·have X:decide (16 < cl)=true:=by simp;exact F
  have C:=zH (show (2:Int)=aU m nw nb need cl by unfold aU;rw [if_neg z,if_pos (.inr F)]);clear z q F;go_in;go_wp2_with fail;clear s r;refine qM (y.o _) fun b n=>?_;replace t:=zF n t;clear n;go_wp2;go_ret;exact ⟨bK C.o,t.u⟩
 have X:decide (16 < cl)=false:=sO;have U:0≤cl*m∧cl*m≤16*1024:=⟨Int.mul_nonneg oM oM,Int.mul_le_mul oM oM oM oM⟩;have N:aU m nw nb need cl=if (nw:Int) ≠ cl*m ∨ 16384 < nw ∨ (nb:Int) ≠ cl then 9 else if need < 0 then 11 else 0:=by unfold aU;rw [if_neg z,if_neg oM]
 have g:=zH N;have I:IntKind.i64.wrap (cl*m)=cl*m:=wJ;clear N;obtain ⟨p,M⟩:∃ p,cl*m=p:=⟨_,rfl⟩;rw [M] at I g U;have k:IntKind.i64.wrap (cl*m)=p:=by rw [M];exact I
 have E:=zH k;clear M I q F z k;have j:(nw:Int) ≠ p ∨ 16384 < nw ∨ (nb:Int) ≠ cl → Calls prog 65 #[.agg (sN h v c),.agg #[.slice W nw G,.slice B nb cb,.int .i32 need],.int .i64 cl] w fun e w'=>e=.returned (.int .i64 9)∧Below w w w':=by
  intro a;by_cases A:(nw:Int)=p
  ·have u1:((nw:Int) != p)=false:=by simp;exact A
   by_cases Y:16384 < nw
   ·have u2:decide ((16384:Int) < (nw:Int))=true:=sO;clear a A g;have k:=E.o;go_in;go_wp2_with fail;clear s r x f;refine qM (y.o _) fun b n=>?_;obtain ⟨t,l⟩:=uz2 n t l;clear n;have f:=fun i=>l.o.cell i;go_wp2;go_ret;exact ⟨rfl,t.u⟩
   ·have u2:decide ((16384:Int) < (nw:Int))=false:=sO;have u3:((nb:Int) != cl)=true:=sO;clear a A g;have k:=E.o;go_in;go_wp2_with fail;clear s r x f;refine qM (y.o _) fun b n=>?_;obtain ⟨t,l⟩:=uz2 n t l;clear n;have f:=fun i=>l.o.cell i;go_wp2;go_ret;exact ⟨rfl,t.u⟩
  ·have u1:((nw:Int) != p)=true:=by simp;exact A
   clear a A g;have k:=E.o;go_in;go_wp2_with fail;clear s r x f;refine qM (y.o _) fun b n=>?_;obtain ⟨t,l⟩:=uz2 n t l;clear n;have f:=fun i=>l.o.cell i;go_wp2;go_ret;exact ⟨rfl,t.u⟩
 rw [g.o];by_cases a:(nw:Int) ≠ p ∨ 16384 < nw ∨ (nb:Int) ≠ cl
 ·rw [if_pos a];exact j a
 ·rw [if_neg a];have u1:((nw:Int) != p)=false:=sO;have u2:decide ((16384:Int) < (nw:Int))=false:=sO;have u3:((nb:Int) != cl)=false:=sO;clear j a g;have k:=E.o;by_cases d:need < 0
  ·have u4:decide (need < 0)=true:=by simp;exact d
   rw [if_pos d];clear d;go_in;go_wp2_with fail;clear s r x f;refine qM (y.o _) fun b n=>?_;obtain ⟨t,l⟩:=uz2 n t l;clear n;have f:=fun i=>l.o.cell i;go_wp2;go_ret;exact ⟨rfl,t.u⟩
  ·have u4:decide (need < 0)=false:=sO;rw [if_neg d];clear d;go_in;go_wp2_with fail;clear s r x f;refine qM (y.o _) fun b n=>?_;obtain ⟨t,l⟩:=uz2 n t l;clear n;have f:=fun i=>l.o.cell i;go_wp2;go_ret;exact ⟨rfl,t.u⟩
theorem kr (A:QA) (n ba:Nat) (l:List af) (h v c:Int) (w:World) (J:Sl di w (blo w) A n ba l) (i0:InK .i64 h) (i1:InK .i64 v) (i2:InK .i64 c) (hf:∀ d ∈ l,d.w.length≤1000∧d.bias.length≤100) :
  Calls prog 49 #[.slice A n ba,.agg (sN h v c)] w (bv (ao l (h,v,c)) w):=by
 have hn:=J.n_eq;obtain ⟨r,hr⟩:∃ r,ao l (h,v,c)=r:=⟨_,rfl⟩;rw [hr];unfold ao at hr;simp only [hn] at hr;have RI:=zH (fun w=>bX h c v w i0 i1 i2);have m0:=(aF h v c).1;have GS:=zH (dp.of (h:=h) (v:=v) (c:=c));obtain ⟨m,hm⟩:∃ m,ag h v c=m:=⟨_,rfl⟩;rw [hm] at hr RI m0 GS;obtain ⟨I,H,HF⟩:=zh3 hr.symm J hf;have bW:n≤9223372036854775807:=lT J.cap_le J.max_le;clear hr hm J hf i0 i1 i2 hn;have G:=zW w;obtain ⟨w1,V,L,G⟩:=nF G (sN h v c) 23;have l1:=zL V;by_cases M:m=0
 ·have t1:(m == 0)=true:=by simp [M]
  have R:=zH (show r=([],-1,5) by rw [I.o,if_pos M]);clear M I;go_in
  go_wp2_with (refine lG L.o ?_)
  clear V;refine qM (RI.o _) fun w2 f=>?_;obtain ⟨G,L⟩:=uz2 f G L;clear f;go_wp2
  go_ret3
  rw [R.o];exact bv.none G.u
 have t1:(m == 0)=false:=by simpa using M
 have good:=zH (GS.o M);by_cases c2:n=0
 ·have t2:((n:Int) == 0)=true:=sO;have R:=zH (show r=([],-1,12) by rw [I.o,if_neg M,if_pos c2]);clear M c2 I;go_in
  go_wp2_with (refine lG L.o ?_)
  clear V;refine qM (RI.o _) fun w2 f=>?_;obtain ⟨G,L⟩:=uz2 f G L;clear f;go_wp2
  go_ret3
  rw [R.o];exact bv.none G.u
 have t2:((n:Int) == 0)=false:=sO;by_cases c3:8 < n
 ·have t3:decide (8 < (n:Int))=true:=sO;have R:=zH (show r=([],-1,4) by rw [I.o,if_neg M,if_neg c2,if_pos c3]);clear M c2 c3 I;go_in
  go_wp2_with (refine lG L.o ?_)
  clear V;refine qM (RI.o _) fun w2 f=>?_;obtain ⟨G,L⟩:=uz2 f G L;clear f;go_wp2
  go_ret3
  rw [R.o];exact bv.none G.u
 have t3:decide (8 < (n:Int))=false:=sO;have ct:n≤8:=oM;have V2:=zH (show r=tw n (bS l (h,v,c) n) by rw [I.o,if_neg M,if_neg c2,if_neg c3]);clear M c2 c3 I GS;go_in
 go_wp2_with (refine lG L.o ?_)
 clear V;refine qM (RI.o _) fun w2 f=>?_;obtain ⟨G,L⟩:=uz2 f G L;clear f;clear RI
 go_wp2_with (first
  | (refine lG L.o ?_)
  | (refine cJ rfl (.tmp 22) rfl eW (sN h v c) rfl rfl dM ?_))
 have z2:=G.o.size;go_loopw [7,8] (fun u i wr=>∃ (k:Nat) (out:List Sh3),k≤n∧i=.int .i64 k∧bS l (h,v,c) k=.on out∧Own dg wr (fun _=>False) w.heap.size 23 u (k+1) out∧Below w w wr) (fun _ i _=>n - (intOf i).toNat)
 case atStart=>exact ⟨0,[(h,v,c)],zl _,rfl,rfl,Own.one z2 good.out.rep,G.u.alloc z2 _⟩
 case round =>
  clear G L z2 t1 t2 t3;obtain ⟨k,out,hk,rfl,ad,T,f⟩:=hrel;obtain ⟨Y,ON,HR⟩:=zh3 f T ad;obtain ⟨A1,M,rfl,sl⟩:=T.sl (S':=bin w wr) dM (fun b h1 h2=>⟨h1,h2⟩) (fun _ h=>h.elim);have SL:=zH sl;clear f T ad sl;by_cases bc:k < n
  ·have p1:(k:Int) < (n:Int):=oM;obtain ⟨d,b0,off,W,nw,X,B,nb,cb,hd,rfl,_,_,bd,ay,U,bb⟩:=(H.o.below Y.o (fun _ h=>h)).node_at k bc;have bx:=HF.o d (mG hd);have bw:=rk HR.o hd;have q8:=ay.n_eq;have bM:=U.n_eq;obtain ⟨RG,al,HW,be,P,ax,Q8,bt⟩:=zh8 bb bd (ay.more (dV Y.o.size)) (U.more (dV Y.o.size)) bw bx q8 bM;obtain ⟨CK,TH,SE,KD,TB⟩:=zh5 (fun (w':World) (bn:Below wr wr w')=>pt d W nw X B nb cb w' (HW.o.later bn (lR _)) (be.o.later bn (lR _)) oM oM) (fun w=>pC d W nw X B nb cb ((k+1:Nat):Int) w) (fun w=>xI d W nw X B nb cb w) (kP (d:=d)) (fJ (d:=d) (n:=((k+1:Nat):Int)));have bp:=SL.o.n_eq;have NV:=zH (show bP d out=_ from rfl);have bR:=NV.o;have NG:=zH (ld (d:=d) (l:=out));obtain ⟨nx,C⟩:∃ x,bP d out=x:=⟨_,rfl⟩;have NE:=zH C;unfold bP at C;rw [bp] at C;obtain ⟨ck,bh⟩:∃ x,bu d=x:=⟨_,rfl⟩;obtain ⟨th,bA⟩:∃ x,bi d ((k+1:Nat):Int)=x:=⟨_,rfl⟩;rw [bh] at CK KD C;rw [bA] at TH TB C;have I:=zH C.symm;clear hd bd ay U bb bw C bh bA bx q8 bM NV bR bp;have zr:=Y.o.size;have ac:True:=trivial;clear ac;by_cases e1:ck=0;rotate_left
   ·have t4:(ck != 0)=true:=by simpa using e1
    have RX:=zH (show nx=noS ck by rw [I.o,if_pos e1]);have R:=zH (show r=([],(k:Int),ck) by
     have:=P.o;rw [NE.o,RX.o,if_pos (by exact e1)] at this;rw [V2.o,ls this n oM];rfl)
    clear e1 I V2 P NE NG RX
    go_wp2_with (first
     | (refine wpList_load_mid rfl 84 (.tmp 32) rfl b0 (off+k*19) rfl _ _ RG.o underlying84 rfl kM ?_)
     | (refine sG (nD d W nw X B nb cb) (Blk.now _ _ _ _ rfl) ?_;intro w7 B7 g7;have G7:=zH (show Below wr wr w7 from ((qB _ _).alloc (lR _) _).grown g7 sM (fun k h=>by have:=sI h;omega));have F:=zH B7;clear B7 g7)
     | (refine lG F.o ?_))
    refine qM (CK.o _ G7.o) fun w8 f=>?_;have O:=zH (aa f G7.o);clear f;go_wp2
    go_ret3
    rw [R.o];exact bv.none (aa O.o Y.o)
   subst e1;have t4:((0:Int) != 0)=false:=rfl;cases th with
   | false =>
    have RX:=zH (show nx=noS 8 by rw [I.o,if_neg dM,if_pos rfl]);have R:=zH (show r=([],(k:Int),8) by
     have:=P.o;rw [NE.o,RX.o,if_pos dM] at this;rw [V2.o,ls this n oM];rfl)
    clear I V2 P NE NG RX
    go_wp2_with (first
     | (refine wpList_load_mid rfl 84 (.tmp 32) rfl b0 (off+k*19) rfl _ _ RG.o underlying84 rfl kM ?_)
     | (refine sG (nD d W nw X B nb cb) (Blk.now _ _ _ _ rfl) ?_;intro w7 B7 g7;have G7:=zH (show Below wr wr w7 from ((qB _ _).alloc (lR _) _).grown g7 sM (fun k h=>by have:=sI h;omega));have F:=zH B7;clear B7 g7)
     | (refine lG F.o ?_))
    refine qM (CK.o _ G7.o) fun w8 f=>?_;have O:=zH (aa f G7.o);replace F:=zF f F;clear f
    go_wp2_with (refine lG F.o ?_)
    refine qM (TH.o _) fun w9 f=>?_;replace O:=zH (aa f O.o);clear f;go_wp2
    go_ret3
    rw [R.o];exact bv.none (aa O.o Y.o)
   | true =>
    obtain ⟨u1,u2,u3,u4⟩:=TB.o rfl;have bl:=KD.o rfl;obtain ⟨ia,br⟩:∃ ia,d.a.toNat=ia:=⟨_,rfl⟩;obtain ⟨ib,an⟩:∃ ib,(ar d).toNat=ib:=⟨_,rfl⟩;obtain ⟨g0,Z,rfl,_,_,k1,k2,k3,_,q1⟩:=SL.o.shape_at ia oM;obtain ⟨bT,bo,e0,_,_,k4,k5,k6,_,q2⟩:=SL.o.shape_at ib oM;obtain ⟨rfl,rfl⟩:g0=bT∧Z=bo:=by simpa using e0
    have V3:=zH (show nx=aE (out.getD ia (0,0,0)).1 (out.getD ia (0,0,0)).2.1 (out.getD ia (0,0,0)).2.2 (out.getD ib (0,0,0)).1 (out.getD ib (0,0,0)).2.1 (out.getD ib (0,0,0)).2.2 d by rw [I.o,if_neg dM,if_neg dM,br,an]);obtain ⟨⟨x,y,z⟩,hx⟩:∃ s,out.getD ia (0,0,0)=s:=⟨_,rfl⟩;obtain ⟨⟨x',y',z'⟩,bB⟩:∃ s,out.getD ib (0,0,0)=s:=⟨_,rfl⟩;rw [hx] at q1 k1 k2 k3 V3;rw [bB] at q2 k4 k5 k6 V3;simp only at q1 q2 k1 k2 k3 k4 k5 k6 V3;obtain ⟨Q1,Q2⟩:=zh2 q1 q2;obtain ⟨sc,bg⟩:∃ s,ar d=s:=⟨_,rfl⟩;rw [bg] at u3 u4 SE an;have KS:=zH (fun w=>nr x y z x' y' z' d W nw X B nb cb w k1 k2 k3 al.o.out al.o.p Q8.o.symm bt.o.symm (by have:=ax.o;have:=Q8.o;omega) (by have:=ax.o;have:=bt.o;omega) bl);obtain ⟨⟨⟨x1,x2,x3⟩,xe⟩,bD⟩:∃ s,aE x y z x' y' z' d=s:=⟨_,rfl⟩;rw [bD] at KS V3;simp only [aY] at KS;have Q:=P.o;rw [NE.o] at NG Q;rw [V3.o] at NG Q;simp only at Q;replace P:=zH Q;clear Q NE V3 I hx bB bD bg k1 k2 k3 k4 k5 k6 q1 q2 e0 bl KD TB al;have y2:d.a < (k:Int)+1:=oM;have y4:sc < (k:Int)+1:=oM;clear u2 u4
    go_wp2_with (first
     | (refine wpList_load_mid rfl 84 (.tmp 32) rfl b0 (off+k*19) rfl _ _ RG.o underlying84 rfl kM ?_)
     | (refine sG (nD d W nw X B nb cb) (Blk.now _ _ _ _ rfl) ?_;intro w7 B7 g7;have G7:=zH (show Below wr wr w7 from ((qB _ _).alloc (lR _) _).grown g7 sM (fun k h=>by have:=sI h;omega));have F:=zH B7;clear B7 g7)
     | (refine lG F.o ?_))
    refine qM (CK.o _ G7.o) fun w8 f=>?_;have O:=zH (aa f G7.o);replace F:=zF f F;clear f
    go_wp2_with (refine lG F.o ?_)
    refine qM (TH.o _) fun w9 f=>?_;replace O:=zH (aa f O.o);replace F:=zF f F;clear f CK TH;have zg:=O.o.size
    go_upto_region 17 with (fail)
    go_cut [11,12] (fun b c wx=>∃ g,b=.pointer (some ⟨g,0,none⟩)∧c=.int .i64 xe∧Blk wx g 23 (sN x1 x2 x3)∧Below wr wr wx)
    case first =>
     refine wp_region_held_drew (S:=fun w'=>w'.cell? ⟨wr.heap.size,1,none⟩=some (.int .i64 d.a)∧Blk w' wr.heap.size 84 (nD d W nw X B nb cb)∧Below wr wr w') kM ?_ (fun e=>?_)
     ·exact ⟨F.o.drew.cell 1,F.o.drew,O.o.drew⟩
     refine tkH 0 rfl (yP (nD d W nw X B nb cb) (fun w J=>J.2.1)) e ?_;try simp only [pX]
     refine kH' 1 e ?_;refine kH' 2 e ?_;refine kH' 3 e ?_;refine kH' 4 e ?_;refine tkH 5 rfl (yieldsIf_load_mid (by rfl) 23 (.tmp 51) rfl g0 (Z+ia*3) (by rw [← br];rfl) _ _ (fun w J j v hv=>au J.2.2 (Q1.o j v hv)) underlying23 rfl kM) e ?_;try simp only [pX]
     refine kH' 6 e ?_;refine tkH 7 rfl (yP (nD d W nw X B nb cb) (fun w J=>J.2.1)) e ?_;try simp only [pX]
     refine wpAnyH_ready (rs:=[8,15]) kM sM ?_;refine AllReadyH.cons rfl (fun K q=>?_) (AllReadyH.cons rfl (fun K q=>?_) AllReadyH.nil)
     ·go_simp;refine qM (SE.o _) fun wa f=>?_;refine xK q (zR f e) fun e=>?_;clear q K;refine kH' 9 e ?_;refine tkH 10 rfl (yieldsIf_load_mid (by rfl) 23 (.tmp 56) rfl g0 (Z+ib*3) (by rw [← an];rfl) _ _ (fun w J j v hv=>au J.2.2 (Q2.o j v hv)) underlying23 rfl kM) e ?_;try simp only [pX]
      refine wpAnyH_ready (rs:=[11,15]) kM sM ?_;refine AllReadyH.cons rfl (fun K q=>?_) (AllReadyH.cons rfl (fun K q=>?_) AllReadyH.nil)
      ·go_simp;refine qM (KS.o _) fun wb f=>?_;refine xK q (zR f e) fun e=>?_;clear q K;refine kH' 12 e ?_;refine kH' 13 e ?_;refine kH' 14 e ?_;refine rH 15 rfl (fun K q=>?_);go_simp;have bN:wr.heap.size < wb.heap.size:=e.2.1.lt;obtain ⟨f,N⟩:=zB wb (sN 0 0 0) 23;refine xK q (zR f e) fun e=>?_;clear q K;refine rH 16 rfl (fun K q=>?_);rw [if_pos (by rfl)];refine oG (sN x1 x2 x3) N.o ?_;intro wc BX gc;have D:=e.2.1.away gc oM;refine q.out _ _ ⟨D.cell 1,D,e.2.2.grown gc e.2.2.size (fun k h=>by have:=sI h;omega)⟩ (fun e=>?_);clear q K;try simp only [pX]
       refine kH' 17 e ?_;refine wpAnyH_done kM ?_ _;have FZ:=e.2.2;go_wp2_with fail;go_meet
       case rel=>exact ⟨_,rfl,rfl,BX,FZ⟩
      ·go_simp;have bN:wr.heap.size < wa.heap.size:=e.2.1.lt;obtain ⟨f,N⟩:=zB wa (sN 0 0 0) 23;refine xK q (zR f e) fun e=>?_;clear q K;refine rH 11 rfl (fun K q=>?_);go_simp;refine qM (KS.o _) fun wb f=>?_;replace N:=zH (N.o.later f);refine xK q (zR f e) fun e=>?_;clear q K;refine kH' 12 e ?_;refine kH' 13 e ?_;refine kH' 14 e ?_;refine rH 16 rfl (fun K q=>?_);rw [if_pos (by rfl)];refine oG (sN x1 x2 x3) N.o ?_;intro wc BX gc;have D:=e.2.1.away gc oM;refine q.out _ _ ⟨D.cell 1,D,e.2.2.grown gc e.2.2.size (fun k h=>by have:=sI h;omega)⟩ (fun e=>?_);clear q K;try simp only [pX]
       refine kH' 17 e ?_;refine wpAnyH_done kM ?_ _;have FZ:=e.2.2;go_wp2_with fail;go_meet
       case rel=>exact ⟨_,rfl,rfl,BX,FZ⟩
     ·go_simp;have bN:wr.heap.size < w9.heap.size:=e.2.1.lt;have f:Below w9.drew.heap.size w9.drew (w9.drew.alloc (.cells (sN 0 0 0) 23)):=(qB _ _).alloc (lR _) _;have N:=zH (Blk.now w9.drew w9.heap.size 23 (sN 0 0 0) rfl);refine xK q (zR f e) fun e=>?_;clear q K;refine rH 8 rfl (fun K q=>?_);go_simp;refine qM (SE.o _) fun wa f=>?_;replace N:=zH (N.o.later f);refine xK q (zR f e) fun e=>?_;clear q K;refine kH' 9 e ?_;refine tkH 10 rfl (yieldsIf_load_mid (by rfl) 23 (.tmp 56) rfl g0 (Z+ib*3) (by rw [← an];rfl) _ _ (fun w J j v hv=>au J.2.2 (Q2.o j v hv)) underlying23 rfl kM) e ?_;try simp only [pX]
      refine rH 11 rfl (fun K q=>?_);go_simp;refine qM (KS.o _) fun wb f=>?_;replace N:=zH (N.o.later f);refine xK q (zR f e) fun e=>?_;clear q K;refine kH' 12 e ?_;refine kH' 13 e ?_;refine kH' 14 e ?_;refine rH 16 rfl (fun K q=>?_);rw [if_pos (by rfl)];refine oG (sN x1 x2 x3) N.o ?_;intro wc BX gc;have D:=e.2.1.away gc oM;refine q.out _ _ ⟨D.cell 1,D,e.2.2.grown gc e.2.2.size (fun k h=>by have:=sI h;omega)⟩ (fun e=>?_);clear q K;try simp only [pX]
      refine kH' 17 e ?_;refine wpAnyH_done kM ?_ _;have FZ:=e.2.2;go_wp2_with fail;go_meet
      case rel=>exact ⟨_,rfl,rfl,BX,FZ⟩
    case rest =>
     obtain ⟨wb,rfl,rfl,BX,bs⟩:=hcut;obtain ⟨G9,bO⟩:=zh2 bs BX;have OC:=zH (ON.o.below G9.o (lR _) (fun _ h=>h.elim));clear BX bs F O SE KS;by_cases ah:xe=0
     ·subst ah;have gx:=zH (NG.o rfl);rw [if_neg dM] at P;clear NG
      go_wp2_with (first
       | (refine lG bO.o ?_)
       | (refine cJ rfl (.tmp 66) rfl eW (sN x1 x2 x3) rfl rfl dM ?_)
       | (at_builtin;refine wpList_push (W:=wc) (cs:=(sN x1 x2 x3)) (E:=23) (t:=dg) (S:=fun _=>False) (base:=w.heap.size) rfl (.tmp 65) (.tmp 67) rfl eW rfl OC.o 1 rfl (x1,x2,x3) gx.out.rep mL oM (lT zr G9.o.size) (fun _ h=>h.elim) ?_;intro v' wz bH gz ce))
      have bz:=(aa G9.o Y.o).grown gz (lT zr G9.o.size) (fun j hj=>(OC.o.lt j hj).1);exact ⟨⟨k+1,out ++ [(x1,x2,x3)],by omega,by go_num,P.o,bH,bz⟩,by simp [intOf];omega⟩
     ·have t5:(xe != 0)=true:=by simpa using ah
      rw [if_pos ah] at P;have R:=zH (show r=([],(k:Int),xe) by rw [V2.o,ls P.o n oM];rfl);clear ah NG P V2;go_wp2
      go_ret3
      rw [R.o];exact bv.none (aa G9.o Y.o)
  ·obtain rfl:k=n:=oM;have R:=zH (show r=(out,(k:Int),0) by rw [V2.o,HR.o];rfl);clear bc hk V2;go_wp2
   go_ret3
   rw [R.o];exact ⟨A1,_,M,rfl,SL.o,Y.o⟩
theorem pf {t:ae} (h:t.ok=true):aw t:=by
 unfold ae.ok at h;have h:=of_decide_eq_true h;have g:=dp.of (h:=t.h) (v:=t.v) (c:=t.c) oM;have e:=g.h;have a:=g.v;have o:=g.c;simp only at e a o;exact ⟨by rw [ai];omega,by rw [ai];omega,by rw [ai];omega⟩
theorem jN (t:ae) (A:QA) (n i:Nat) (w:World) (s:t.ok=true) (y:xA w A n i t.data) (M:n≤140737488351232) :
  Calls prog 34 #[.agg (sN t.h t.v t.c),.slice A n i] w (aT .i8 t 0 w):=by
 have x:=pf s;have I:=zH (fun w=>av t.h t.v t.c A n i w x.h x.v x.c (lT y.cap_le y.max_le));have l:decide (0 < ag t.h t.v t.c∧ag t.h t.v t.c=n)=true:=by rw [← y.n_eq];exact s
 rw [l] at I;have d:=zH (Old.now y);have r:=zW w;obtain ⟨R,T,G,H,P,Q,g,j,b⟩:=bk2 w (sN t.h t.v t.c) 23 (tN 0 0 0 none 0 0) 29;obtain ⟨r,d⟩:=uz2 b r d;clear b;clear y s x l;go_in
 go_wp2_with (refine lG g.o ?_)
 clear G H;refine qM (I.o _) fun O p=>?_;obtain ⟨r,d,g,j⟩:=uz4 p r d g j;clear p;go_wp2_with fail;refine wp_region_held_drew (S:=fun w'=>Blk w' w.heap.size 23 (sN t.h t.v t.c)∧Below w w w') kM ?_ (fun a=>?_)
 ·exact ⟨g.o.drew,r.u.drew⟩
 refine tkH 0 rfl (yP (sN t.h t.v t.c) (fun w q=>q.1)) a ?_;try simp only [pX]
 refine kH' 1 a ?_;refine rH 2 rfl (fun K f=>?_);go_simp;refine (eV A n i t.data _ (d.o.draw.all) M).mono ?_;rintro e w4 ⟨D,m,c,rfl,q,p⟩;have L:=zH (New.of q ((Far.refl O).draw));have B:=zH (j.o.drew.later p);clear q;refine xK f (zR p a) fun a=>?_;clear f K;refine kH' 3 a ?_;refine rH 4 rfl (fun K f=>?_)
 (rw [if_pos (by rfl)];refine oG (tN t.h t.v t.c D m c) B.o ?_;intro U C F;have N:=j.o.lt;have E:=zH (L.o.away F N);have z:=a.1.away F oM;refine f.out _ _ ⟨z,a.2.grown F a.2.size (fun k h=>by have:=sI h;omega)⟩ (fun a=>?_))
 clear f K;try simp only [pX]
 refine kH' 5 a ?_;refine wpAnyH_done kM ?_ _;have J:=a.2;go_wp2_with fail;refine rG C ?_;exact ⟨D,m,c,rfl,E.o.since r.o,J⟩
def dB (t:ae) (d:af):ae × Int:=if d.kind=1 then cg t d else if d.kind=2 then db t d else if d.kind=3 then dU t d else (ak,6)
open Fx
theorem wN (A:QA) (n t:Nat) (l:List Int) (w:World) (r:Sl (ab .i64) w (blo w) A n t l) (g:n≤1024) (h:∀ i,i < n → 1≤l.getD i 0∧l.getD i 0≤16384) :
  Calls prog 246 #[.slice A n t] w fun e w'=>e=.returned (.bool true)∧w=w':=by
 obtain ⟨H,c⟩:=zh2 r h;clear r h;go_in;go_wp2;go_loopw [7] (fun s wr=>∃ k:Nat,k≤n∧s=.int .i64 k∧w=wr) (fun s _=>n - (intOf s).toNat)
 case atStart=>exact ⟨0,zl _,rfl,rfl⟩
 case round =>
  obtain ⟨k,v,rfl,rfl⟩:=hrel;by_cases a:k < n
  ·have j:(k:Int) < (n:Int):=oM;obtain ⟨b,o,rfl,-,-,m,f⟩:=H.o.int_at k a;obtain ⟨y,p⟩:=c.o k a;obtain ⟨x,d⟩:∃ x,l.getD k 0=x:=⟨_,rfl⟩;rw [d] at m f y p;have q:¬ x < 1:=oM;have z:¬ 16384 < x:=oM;clear d;go_wp2;exact ⟨⟨k+1,by omega,by go_num,by trivial⟩,by simp [intOf];omega⟩
  ·obtain rfl:k=n:=oM;go_wp2;go_ret;exact ⟨rfl,by trivial⟩
def hiN (l:List Int):Nat → Int
 | 0=>l.getD 0 0
 | k+1=>if hiN l k < l.getD k 0 then l.getD k 0 else hiN l k
def ou (l:List Int) (n:Nat):Int:=bf n fun i=>l.getD i 0
def fO (l:List Int):Int:=w8 (xc (ou l l.length) l.length)
theorem Bo (l:List Int):InK .i8 (fO l):=sR _
theorem Dq {l:List Int} (h:∀ i,InK .i8 (l.getD i 0)) (n:Nat):(ou l n).natAbs≤n*128:=Dr fun i _=>by have:=h i;rw [bj] at this;omega
theorem tY (A:QA) (n t:Nat) (l:List Int) (w:World) (s:xA w A n t l) (q:n≤1024) :
  Calls prog 151 #[.slice A n t] w fun e w'=>e=.returned (.int .i8 (fO l))∧Below w w w':=by
 have H:=zH s;unfold fO;rw [s.n_eq];have f:=zH (fun k=>Dq (fun i=>s.allK i) k);clear s;go_in;go_wp2;go_loopw [3,8] (fun u d wr=>∃ k:Nat,k≤n∧d=.int .i64 k∧u=.int .i64 (ou l k)∧w=wr) (fun _ d _=>n - (intOf d).toNat)
 case atStart=>exact ⟨0,zl _,rfl,rfl,rfl⟩
 case round =>
  obtain ⟨k,B,rfl,rfl,rfl⟩:=hrel;have v:=f.o k;by_cases h:k < n
  ·have E:(k:Int) < (n:Int):=oM;have z:=f.o (k+1);obtain ⟨b,o,rfl,-,-,g,c⟩:=H.o.int_at k h;have r:ou l (k+1)=ou l k+l.getD k 0:=rfl;obtain ⟨x,y⟩:∃ x,l.getD k 0=x:=⟨_,rfl⟩;rw [y] at g c r;rw [bj] at c;obtain ⟨C,D⟩:=c;have m:=zH r;obtain ⟨F,a⟩:∃ x,ou l k=x:=⟨_,rfl⟩;rw [a] at v m ⊢;clear y r a;go_wp2;exact ⟨⟨k+1,by omega,by go_num,by rw [m.o],by trivial⟩,by simp [intOf];omega⟩
  ·obtain rfl:k=n:=oM;have p:=zH (fun w=>tZ (ou l k) k w q oM oM)
   go_wp2_with (go_at_call 184;refine qM (p.o _) fun G j=>?_)
   go_ret;exact ⟨rfl,j⟩
theorem qF (t:ae) (A:QA) (n a:Nat) (w:World) (p:aw t) (l:xA w A n a t.data) (k:t.ok=true) :
  Calls prog 120 #[.agg (tN t.h t.v t.c A n a)] w (aT .i8 ⟨1,1,n,t.data⟩ 0 w):=by
 have F:=zH l;obtain ⟨H,V,C,I⟩:=fK k;have P:n≤1024:=by have:=I.n_le;rw [l.n_eq] at this;exact this
 have d:decide (0 < ag t.h t.v t.c∧ag t.h t.v t.c=n)=true:=by rw [← F.o.n_eq];simpa [ae.ok] using k
 have G:=zH (fun w=>av t.h t.v t.c A n a w p.h p.v p.c (lT l.cap_le l.max_le));rw [d] at G;have T:n≤9223372036854775807:=oM;have s:=zW w;obtain ⟨U,W,D,E,R,_,f,y,m⟩:=bk2 w (tN t.h t.v t.c A n a) 29 (tN 0 0 0 none 0 0) 29;replace s:=zF m s;clear m;clear p l k d I;go_in
 go_wp2_with (first|(refine lG f.o ?_)|(go_at_call 58;refine qM (G.o _) fun w4 r=>?_;have S:=r.size;obtain ⟨s,f,y⟩:=uz3 r s f y;clear r D E))
 have O:Below w w w4.drew:=s.u.drew;refine aP (fun w'=>w'.cell? ⟨w.heap.size,3,none⟩=some (.slice A n a)∧Below w4.drew.heap.size w4.drew w') 8 kM ?_ (fun i=>?_)
 ·exact ⟨f.o.drew.cell 3,qB _ _⟩
 refine kT' 0 i ?_;refine kT' 1 i ?_;refine kT' 2 i ?_;refine kT' 3 i ?_;refine kT' 4 i ?_;refine kT' 5 i ?_;refine rT 6 (fun K L=>?_);go_simp;refine (eV A n a t.data _ ((Old.now F.o).fut O).all oM).mono ?_;rintro e Q ⟨g,B,z,rfl,rs,r⟩;refine xK L (zR r i) fun i=>?_;clear L K;refine kT' 7 i ?_;refine wpAnyT_tail _ _ rfl rfl kM ?_;have j:=(show Below w4 w4 w4.drew from (qB _ _).drew).trans r;obtain ⟨N,b⟩:=zh2 (show New w4 (ab .i8) Q g B z t.data from ⟨rs⟩) (y.o.fut j);have x:=s.o.size;replace s:=zF j s;have q:=y.o.lt;clear i r rs j
 go_wp2_with (refine sG (tN 1 1 n g B z) b.o ?_;intro X M J)
 refine rG M ?_;exact ⟨g,B,z,rfl,(N.o.away J q).out.more (aW x (lR _)),(s.o.away J oM).out⟩
open Go.Proofs.YtbecbfpoahhpnaaGreat.Ar
theorem bestTo_bd {sz un at_:List Int} {i n:Nat} (s:Ar.Good sz un i at_) (hi:i≤n) (r:n≤1024) (o:∀ j,j < n → 0≤sz.getD j 0∧sz.getD j 0≤1048576) (k:Nat) (l:k≤i):-1≤bestTo sz un at_ i k∧bestTo sz un at_ i k≤1073741824:=by
 have e:=fun j a=>s.small hi r o j a;rcases bestTo_spec sz un at_ i k (fun j a=>by have:=e j oM;have:=o j oM;omega) with ⟨h,_⟩|⟨d,_,t,_⟩
 ·omega
 ·rcases t with t|⟨j,a,t⟩
  ·omega
  ·have:=e j oM;omega
end Go.Proofs.YtbecbfpoahhpnaaGreat
