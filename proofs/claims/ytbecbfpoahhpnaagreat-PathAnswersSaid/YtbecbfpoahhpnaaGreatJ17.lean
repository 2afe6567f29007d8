/- The shape that a node makes (layers 18, 25): kinds.around. -/
import Derived.Test.YtbecbfpoahhpnaaGreatJ11
import Derived.Test.YtbecbfpoahhpnaaGreatJ15
import Derived.Test.YtbecbfpoahhpnaaGreatJ16
import Derived.Test.YtbecbfpoahhpnaaGreatJ10
set_option linter.unusedVariables false
set_option linter.unusedSimpArgs false
set_option maxRecDepth 100000
set_option maxHeartbeats 16000000
namespace Go.Proofs.YtbecbfpoahhpnaaGreat
open Go.RowKit Go.ChangeShapes Go.WideShapes Tryz
theorem ve (h v c p:Int) (w:World) (d:1≤h∧h≤16∧1≤v∧v≤16∧1≤c∧c≤1024) (O:InK .i64 p) :
  Calls prog 175 #[.agg (sN h v c),.int .i64 p] w fun e w'=>e=aY (dt h v c p)∧Below w w w':=by
 obtain ⟨r,D⟩:∃ r,dt h v c p=r:=⟨_,rfl⟩;rw [D];unfold dt at D;have b:=zH D.symm;clear D O;have l:=zW w;obtain ⟨U,H,z,A,l1,l2,E,y,q⟩:=bk2 w (sN h v c) 23 (sN 0 0 0) 23;replace l:=zF q l;clear q;by_cases s:p < 0
 ·have S:decide (p < 0)=true:=qT s;have R:=zH (show r=noS 2 by rw [b.o,if_pos (.inl s)]);clear s b d;go_in
  go_wp2_with (first
   | (refine sG (sN 0 0 0) y.o ?_;intro I a f))
  refine rG a ?_;exact ⟨by rw [R.o];rfl,(l.o.away f oM).out⟩
 have S:decide (p < 0)=false:=dF s;have P:0≤p:=oM;clear s;by_cases s:4 < p
 ·have T:decide (4 < p)=true:=qT s;have R:=zH (show r=noS 2 by rw [b.o,if_pos (.inr s)]);clear s b d;go_in
  go_wp2_with (first
   | (refine sG (sN 0 0 0) y.o ?_;intro I a f))
  refine rG a ?_;exact ⟨by rw [R.o];rfl,(l.o.away f oM).out⟩
 have T:decide (4 < p)=false:=dF s;have Q:p≤4:=oM;clear s;have F:=zH (fun w=>aV (h+2*p) c (v+2*p) w (by rw [ai];omega) (by rw [ai];omega) (by rw [ai];omega));have X:IntKind.i64.wrap (2*p)=2*p:=wJ;have Y:IntKind.i64.wrap (h+2*p)=h+2*p:=wJ;have Z:IntKind.i64.wrap (v+2*p)=v+2*p:=wJ;have G:=(aF (h+2*p) (v+2*p) c).1;have k:=zH (show r=(if ag (h+2*p) (v+2*p) c=0 then noS 5 else ((h+2*p,v+2*p,c),0)) by rw [b.o,if_neg oM]);obtain ⟨m,N⟩:∃ m,ag (h+2*p) (v+2*p) c=m:=⟨_,rfl⟩;rw [N] at k F G;clear b N d P Q;obtain ⟨K,L,M⟩:=uc3 E 0 1 2;obtain ⟨w3,B,J,x⟩:=nB H (sN 0 0 0) 23;obtain ⟨l,E,y⟩:=uz3 x l E y;clear x;by_cases C:m=0
 ·have t3:decide (0 < m)=false:=sO;have R:=zH (show r=noS 5 by rw [k.o,if_pos C]);clear k C G;go_in
  go_wp2_with (first
   | (refine wpList_store_all rfl 23 (.tmp 6) (.tmp 26) rfl H.heap.size (sN (h+2*p) (v+2*p) c) rfl rfl _ _ J.o rfl kM (by simp [Value.oneCell']) ?_;intro W n j;have t:=zA j y;have i:=zA j l)
   | (refine lG n ?_))
  clear z A B K L M;refine qM (F.o _) fun V d=>?_;have g:=zH (n.fut d);obtain ⟨t,i⟩:=uz2 d t i;clear d
  go_wp2_with (first
   | (refine sG (sN 0 0 0) t.o ?_;intro I a f))
  refine rG a ?_;exact ⟨by rw [R.o];rfl,(i.o.away f oM).out⟩
 have t3:decide (0 < m)=true:=sO;have R:=zH (show r=((h+2*p,v+2*p,c),0) by rw [k.o,if_neg C]);clear k C G;go_in
 go_wp2_with (first
  | (refine wpList_store_all rfl 23 (.tmp 6) (.tmp 26) rfl H.heap.size (sN (h+2*p) (v+2*p) c) rfl rfl _ _ J.o rfl kM (by simp [Value.oneCell']) ?_;intro W n j;have t:=zA j y;have i:=zA j l)
  | (refine lG n ?_))
 clear z A B K L M;refine qM (F.o _) fun V d=>?_;have g:=zH (n.fut d);obtain ⟨t,i⟩:=uz2 d t i;clear d
 go_wp2_with (first
  | (refine lG g.o ?_)
  | (refine wpList_store_all rfl 23 (.tmp 4) (.tmp 31) rfl U.heap.size (sN (h+2*p) (v+2*p) c) rfl rfl _ _ t.o rfl kM (by simp [Value.oneCell']) ?_;intro I a f))
 refine rG a ?_;exact ⟨by rw [R.o];rfl,(i.o.away f oM).out⟩
theorem fP (h v c F H E:Int) (d:af) (W:QA) (nw cw:Nat) (B:QA) (nb cb:Nat) (w:World) (Y:InK .i64 h) (Z:InK .i64 v) (i2:InK .i64 c) (K:InK .i64 d.out) (X:InK .i64 d.p) (V:nw=d.w.length) (U:nb=d.bias.length) (mw:nw≤1048576) (mb:nb≤1048576) (J:6≤d.kind∧d.kind≤9) :
  Calls prog 143 #[.agg (nD d W nw cw B nb cb),.agg (sN h v c),.agg (sN F H E)] w fun e w'=>e=aY (cG d.kind h v c F H E d.p)∧Below w w w':=by
 obtain ⟨r,L⟩:∃ r,cG d.kind h v c F H E d.p=r:=⟨_,rfl⟩;rw [L];unfold cG at L;obtain ⟨A,D,P⟩:=zh3 (fun w=>aV h c v w Y Z i2) (fun w=>bL h c v w Y Z i2) (eX (h:=h) (v:=v) (c:=c));have m0:=(aF h v c).1;obtain ⟨m,T⟩:∃ m,ag h v c=m:=⟨_,rfl⟩;obtain ⟨eq,S⟩:∃ x,([h,v,c] == [F,H,E])=x:=⟨_,rfl⟩;have C:=zH (fun w=>ip w h v c F H E);rw [T,S] at L;rw [T] at A D P m0;rw [S] at C;have Q:=zH L.symm;clear L T S Y Z i2 K V U mw mb;have a:=zW w;obtain ⟨w1,w2,w3,w4,y,b,g,k,l1,l2,l3,l4,l,t,f,s,O⟩:=bk4 w (nD d W nw cw B nb cb) 84 (sN h v c) 23 (sN F H E) 23 (sN 0 0 0) 23;replace a:=zF O a;clear O;by_cases I:m=0
 ·have t1:decide (0 < m)=false:=sO;have R:=zH (show r=noS 5 by rw [Q.o,if_pos I]);clear I Q m0 J X P;go_in
  go_wp2_with (first
   | (refine lG t.o ?_))
  clear y b g k;refine qM (A.o _) fun M n=>?_;obtain ⟨a,l,t,f,s⟩:=uz5 n a l t f s;clear n
  go_wp2_with (first
   | (refine sG (sN 0 0 0) s.o ?_;intro N i q))
  refine rG i ?_;exact ⟨by rw [R.o];rfl,(a.o.away q oM).out⟩
 have t1:decide (0 < m)=true:=sO;obtain ⟨j,z⟩:=zh2 (show r=(if d.kind=6∧eq=false then noS 5 else if d.kind=8 then dt h v c d.p else if d.kind=9 then ((1,1,m),0) else ((h,v,c),0)) by rw [Q.o,if_neg I]) (fun w=>ve h v c d.p w (P.o I) X);clear Q I m0 X P;rcases (show d.kind=6 ∨ d.kind=7 ∨ d.kind=8 ∨ d.kind=9 by omega) with e|e|e|e
 ·clear J;have k6:(d.kind == 6)=true:=by simp [e]
  have k8:(d.kind == 8)=false:=by simp [e]
  have k9:(d.kind == 9)=false:=by simp [e]
  cases eq
  case false =>
   have R:=zH (show r=noS 5 by rw [j.o];simp [e]);clear j e z D;go_in
   go_wp2_with (first
    | (refine lG t.o ?_))
   clear y b g k;refine qM (A.o _) fun M n=>?_;obtain ⟨a,l,t,f,s⟩:=uz5 n a l t f s;clear n;have G:=l.o.cell 0
   go_wp2_with (first
    | (refine lG t.o ?_)
    | (refine lG f.o ?_)
    | (refine dJ 23 _ (.tmp 16) (.tmp 17) rfl _ _ rfl rfl (by rfl) kM _ (C.o _) ?_;try simp only [Bool.not_true,Bool.not_false])
    | (refine sG (sN 0 0 0) s.o ?_;intro N i q))
   refine rG i ?_;exact ⟨by rw [R.o];rfl,(a.o.away q oM).out⟩
  case true =>
   have R:=zH (show r=((h,v,c),0) by rw [j.o];simp [e]);clear j e z D;go_in
   go_wp2_with (first
    | (refine lG t.o ?_))
   clear y b g k;refine qM (A.o _) fun M n=>?_;obtain ⟨a,l,t,f,s⟩:=uz5 n a l t f s;clear n;have G:=l.o.cell 0
   go_wp2_with (first
    | (refine lG t.o ?_)
    | (refine lG f.o ?_)
    | (refine dJ 23 _ (.tmp 16) (.tmp 17) rfl _ _ rfl rfl (by rfl) kM _ (C.o _) ?_;try simp only [Bool.not_true,Bool.not_false])
    | (refine sG (sN h v c) s.o ?_;intro N i q))
   refine rG i ?_;exact ⟨by rw [R.o];rfl,(a.o.away q oM).out⟩
 ·clear J;have k6:(d.kind == 6)=false:=by simp [e]
  have k8:(d.kind == 8)=false:=by simp [e]
  have k9:(d.kind == 9)=false:=by simp [e]
  have R:=zH (show r=((h,v,c),0) by rw [j.o];simp [e]);clear j e z D C;go_in
  go_wp2_with (first
   | (refine lG t.o ?_))
  clear y b g k;refine qM (A.o _) fun M n=>?_;obtain ⟨a,l,t,f,s⟩:=uz5 n a l t f s;clear n;have G:=l.o.cell 0
  go_wp2_with (first
   | (refine lG t.o ?_)
   | (refine sG (sN h v c) s.o ?_;intro N i q))
  refine rG i ?_;exact ⟨by rw [R.o];rfl,(a.o.away q oM).out⟩
 ·clear J;have k6:(d.kind == 6)=false:=by simp [e]
  have k8:(d.kind == 8)=true:=by simp [e]
  have k9:(d.kind == 9)=false:=by simp [e]
  obtain ⟨⟨⟨x1,x2,x3⟩,xe⟩,hx⟩:∃ x,dt h v c d.p=x:=⟨_,rfl⟩;rw [hx] at j z;simp only [aY] at z;have R:=zH (show r=((x1,x2,x3),xe) by rw [j.o];simp [e]);clear j e D C hx;go_in
  go_wp2_with (first
   | (refine lG t.o ?_))
  clear y b g k;refine qM (A.o _) fun M n=>?_;obtain ⟨a,l,t,f,s⟩:=uz5 n a l t f s;clear n;obtain ⟨G,n5⟩:=uc2 l 0 5
  go_wp2_with (first
   | (refine lG t.o ?_))
  clear G n5;refine qM (z.o _) fun w6 n=>?_;obtain ⟨a,l,t,f,s⟩:=uz5 n a l t f s;clear n
  go_wp2_with (first
   | (refine sG (sN x1 x2 x3) s.o ?_;intro N i q))
  refine rG i ?_;exact ⟨by rw [R.o];rfl,(a.o.away q oM).out⟩
 ·clear J;have k6:(d.kind == 6)=false:=by simp [e]
  have k8:(d.kind == 8)=false:=by simp [e]
  have k9:(d.kind == 9)=true:=by simp [e]
  have R:=zH (show r=((1,1,m),0) by rw [j.o];simp [e]);clear j e z C;go_in
  go_wp2_with (first
   | (refine lG t.o ?_))
  clear y b g k;refine qM (A.o _) fun M n=>?_;obtain ⟨a,l,t,f,s⟩:=uz5 n a l t f s;clear n;have G:=l.o.cell 0
  go_wp2_with (first
   | (refine lG t.o ?_))
  clear G;refine qM (D.o _) fun w6 n=>?_;obtain ⟨a,l,t,f,s⟩:=uz5 n a l t f s;clear n
  go_wp2_with (first
   | (refine sG (sN 1 1 m) s.o ?_;intro N i q))
  refine rG i ?_;exact ⟨by rw [R.o];rfl,(a.o.away q oM).out⟩
open Fx
theorem gN (v s:Int) (b:Nat) (h:v.natAbs≤b):(dr v s).natAbs≤b:=by
 unfold dr;have:=lA v.natAbs s.toNat;split
 ·simp
 ·split <;> omega
theorem pn {a b:Int} (e:InK .i32 a) (t:InK .i32 b):(a*b).natAbs≤4611686018427387904:=by
 rw [cE] at e t;exact lT (natAbs_mul_le (m:=2147483648) (n:=2147483648) oM oM) dM
theorem rq (t m s:Int) (w:World) (i:InK .i32 t) (n:InK .i32 m) :
  Calls prog 217 #[.int .i32 t,.int .i32 m,.int .i64 s] w fun e w'=>e=.returned (.int .i64 (dr (t*m) s))∧Below w w w':=by
 have h:=pn i n;rw [cE] at i n;obtain ⟨l,c⟩:=i;obtain ⟨b,g⟩:=n;obtain ⟨p,a⟩:∃ p,t*m=p:=⟨_,rfl⟩;rw [a] at h ⊢;have f:IntKind.i64.wrap (t*m)=p:=by rw [a];exact wJ
 have r:=zH (fun w=>zK p s w (by rw [ai];omega));have y:p≤4611686018427387904:=oM;have v:-4611686018427387904≤p:=oM;clear h;go_in
 go_wp2_with (go_at_call 236;refine qM (r.o _) fun k d=>?_)
 go_ret;exact ⟨rfl,d⟩
def dq (acc m s z lo hi:Int):Int:=if aD m s=true then w8 (gY (dr (acc*m) s+z) lo hi) else 0
theorem kW (e m s z lo hi:Int):InK .i8 (dq e m s z lo hi):=by
 unfold dq;split
 ·exact sR _
 ·decide
theorem iG (t m s z lo hi:Int) (w:World) (p:InK .i32 t) (v:InK .i32 m) (C:InK .i8 z) (c:InK .i8 lo) (l:InK .i8 hi) :
  Calls prog 218 #[.int .i32 t,.agg #[.int .i32 m,.int .i64 s,.int .i8 z],.int .i8 lo,.int .i8 hi] w fun e w'=>e=.returned (.int .i8 (dq t m s z lo hi))∧Below w w w':=by
 have H:=gN (t*m) s _ (pn p v);obtain ⟨y,g,d⟩:=zh3 (fun w=>dO m s z w) (fun w=>rq t m s w p v) (show dq t m s z lo hi=if aD m s=true then w8 (gY (dr (t*m) s+z) lo hi) else 0 from rfl);obtain ⟨r,B⟩:∃ r,dr (t*m) s=r:=⟨_,rfl⟩;rw [B] at H g d;rw [bj] at C;obtain ⟨M,N⟩:=C;have I:IntKind.i64.wrap (r+z)=r+z:=wJ;have J:IntKind.i64.wrap z=z:=wJ;have D:=zH (fun w=>qN (r+z) lo hi w c l);obtain ⟨q,A⟩:∃ q,aD m s=q:=⟨_,rfl⟩;rw [A] at y d;have n:=zW w;obtain ⟨K,b,i,n⟩:=nF n #[.int .i32 m,.int .i64 s,.int .i8 z] 82;obtain ⟨k,j,x⟩:=uc3 i 0 1 2;clear B A p v c l;cases q with
 | false =>
  rw [if_neg dM] at d;rw [d.o];go_in
  go_wp2_with (go_at_call 138;refine qM (y.o _) fun a f=>?_)
  go_ret;exact ⟨rfl,(n.o.fut f).out⟩
 | true =>
  rw [if_pos rfl] at d;rw [d.o];go_in
  go_wp2_with (go_at_call 138;refine qM (y.o _) fun a f=>?_)
  obtain ⟨n,i⟩:=uz2 f n i;clear k j x b f;have k:∀ q:Ext a,q.1.cell? ⟨w.heap.size,0,none⟩=some (.int .i32 m):=fun q=>(i.o.ext q).cell 0;have j:∀ q:Ext a,q.1.cell? ⟨w.heap.size,1,none⟩=some (.int .i64 s):=fun q=>(i.o.ext q).cell 1;have x:∀ q:Ext a,q.1.cell? ⟨w.heap.size,2,none⟩=some (.int .i8 z):=fun q=>(i.o.ext q).cell 2;obtain ⟨E,F⟩:=zh2 (fun q:Ext a=>aB q (g.o q.1)) (fun q:Ext a=>aB q ((D.o q.1).mono (fun e w' h=>⟨h.1,by rw [← h.2];exact qB _ _⟩)));refine am a kM kM (qB _ _) ?_;repeat (go_big_quiet_step (first|(exact E.o _)|(exact F.o _)))
  refine wpQuiet_nil ?_;rintro _ ⟨⟨L,G⟩,rfl⟩;go_wp2;go_ret;exact ⟨rfl,(n.o.fut G).out⟩
theorem jI (t m s z lo hi:Int) (w:World) (f:InK .i32 t) (v:InK .i32 m) (G:InK .i8 z) (c:InK .i8 lo) (l:InK .i8 hi) :
  Calls prog 165 #[.int .i32 t,.agg #[.int .i32 m,.int .i64 s,.int .i8 z],.int .i8 lo,.int .i8 hi] w fun e w'=>e=.returned (.int .i8 (dq t m s z lo hi))∧Below w w w':=by
 have D:=gN (t*m) s _ (pn f v);have g:=pn f v;have b:=zH (fun w=>fj m s z w);obtain ⟨k,a⟩:∃ p,t*m=p:=⟨_,rfl⟩;rw [a] at D g;obtain ⟨x,i⟩:=zh2 (fun w=>ll k s w (by rw [ai];omega)) (show dq t m s z lo hi=if aD m s=true then w8 (gY (dr (t*m) s+z) lo hi) else 0 from rfl);rw [a] at i;obtain ⟨r,F⟩:∃ r,dr k s=r:=⟨_,rfl⟩;rw [F] at D x i;rw [bj] at G c l;rw [cE] at f v;obtain ⟨z1,z2⟩:=G;obtain ⟨U,V⟩:=c;obtain ⟨S,T⟩:=l;obtain ⟨L,M⟩:=f;obtain ⟨W,X⟩:=v;have N:IntKind.i64.wrap (r+z)=r+z:=wJ;have O:IntKind.i64.wrap z=z:=wJ;have P:IntKind.i64.wrap (t*m)=k:=by rw [a];exact wJ
 have Q:IntKind.i64.wrap t=t:=wJ;have R:IntKind.i64.wrap m=m:=wJ;obtain ⟨H,J⟩:=zh2 (fun w=>rd (r+z) lo hi w) (show w8 (gY (r+z) lo hi)=IntKind.i8.wrap (gY (r+z) lo hi) from rfl);rw [J.o] at i;obtain ⟨q,E⟩:∃ q,aD m s=q:=⟨_,rfl⟩;rw [E] at b i;have h:=zW w;obtain ⟨Y,j,n,h⟩:=nF h #[.int .i32 m,.int .i64 s,.int .i8 z] 82;obtain ⟨A,B,C⟩:=uc3 n 0 1 2;clear F E a;cases q with
 | false =>
  rw [if_neg dM] at i;rw [i.o];go_in
  go_wp2_with (go_at_call 98;refine qM (b.o _) fun d y=>?_)
  go_ret;exact ⟨rfl,(h.o.fut y).out⟩
 | true =>
  rw [if_pos rfl] at i;rw [i.o];go_in
  go_wp2_with (go_at_call 98;refine qM (b.o _) fun d y=>?_)
  obtain ⟨h,n⟩:=uz2 y h n;clear A B C j y;have A:∀ q:Ext d,q.1.cell? ⟨w.heap.size,0,none⟩=some (.int .i32 m):=fun q=>(n.o.ext q).cell 0;have B:∀ q:Ext d,q.1.cell? ⟨w.heap.size,1,none⟩=some (.int .i64 s):=fun q=>(n.o.ext q).cell 1;have C:∀ q:Ext d,q.1.cell? ⟨w.heap.size,2,none⟩=some (.int .i8 z):=fun q=>(n.o.ext q).cell 2;have I:=zH (fun q:Ext d=>aB q (x.o q.1));refine am d kM kM (qB _ _) ?_;repeat (go_big_quiet_step ((exact I.o _)))
  refine wpQuiet_nil ?_;rintro _ ⟨⟨Z,K⟩,rfl⟩
  go_wp2_with (go_at_call 167;refine (H.o _).mono ?_;rintro e w4 ⟨rfl,rfl⟩)
  go_ret;exact ⟨rfl,(h.o.fut K).out⟩
theorem wR (t:ae) (A:QA) (n s:Nat) (d:af) (W:QA) (nw b:Nat) (B:QA) (nb cb:Nat) (w:World) (k:aw t) (g:aQ d)
  (l:xA w A n s t.data) (m:xA w W nw b d.w) (e:xB w B nb cb d.bias) (p:¬ t.ok=true) :
  Calls prog 192 #[.agg (tN t.h t.v t.c A n s),.agg (nD d W nw b B nb cb)] w (aT .i32 ak 5 w):=by
 obtain ⟨y,x,f,z,q⟩:=zh5 k g l m e;have F:n≤9223372036854775807:=lT l.cap_le l.max_le;have G:nw≤9223372036854775807:=lT m.cap_le m.max_le;have H:nb≤9223372036854775807:=lT e.cap_le e.max_le;clear k g l m e;have r:decide (0 < ag t.h t.v t.c∧ag t.h t.v t.c=n)=false:=by rw [← f.o.n_eq];simpa [ae.ok] using p
 have j:=zH r;clear p r;go_in;go_wp2_with fail;refine qM (av t.h t.v t.c A n s _ y.o.h y.o.v y.o.c (lT f.o.cap_le f.o.max_le)) fun I e=>?_;rw [j.o];have E:=az (B:=w.heap.size) (a:=w) (by go_grown) e (by simp;omega);have bC:=(Blk.now _ (w.heap.size+1+1) _ _ sM).later e;have D:=fun i=>bC.frozen i;have C:=fun i=>bC.cell i;clear e;go_wp2_with fail;refine ret_cell_tmp rfl ((((bC.set_ 0 _).set_ 1 _).set_ 2 _).set_ 3 _) rfl underlying255 kM rfl ?_;exact aT.none (by go_grown)
theorem vh (t:ae) (A:QA) (n r:Nat) (d:af) (W:QA) (nw q:Nat) (B:QA) (nb cb:Nat) (w:World) (J:aw t) (I:aQ d)
  (f:xA w A n r t.data) (y:xA w W nw q d.w) (e:xB w B nb cb d.bias) (K:nw≤1048576∧nb≤1048576) (F:t.ok=true) (j:¬ (bq t.h t.v t.c d).2=0) :
  Calls prog 192 #[.agg (tN t.h t.v t.c A n r),.agg (nD d W nw q B nb cb)] w (aT .i32 ak (bq t.h t.v t.c d).2 w):=by
 obtain ⟨l,Q,b,R,P⟩:=zh5 J I f y e;have m1:n≤9223372036854775807:=lT f.cap_le f.max_le;have m2:nw≤9223372036854775807:=lT y.cap_le y.max_le;have m3:nb≤9223372036854775807:=lT e.cap_le e.max_le;clear J I f y e;have D:=zH K;clear K;have m:decide (0 < ag t.h t.v t.c∧ag t.h t.v t.c=n)=true:=by rw [← b.o.n_eq];simpa [ae.ok] using F
 have O:=zH m;clear F m;obtain ⟨⟨⟨L,M,N⟩,k⟩,z⟩:∃ x,bq t.h t.v t.c d=x:=⟨_,rfl⟩;rw [z] at j ⊢;have V:(k != 0)=true:=by rw [bne_iff_ne];exact j
 have S:=zH z;clear z j;go_in;go_wp2_with fail;refine qM (av t.h t.v t.c A n r _ l.o.h l.o.v l.o.c (lT b.o.cap_le b.o.max_le)) fun w1 e=>?_;rw [O.o];have G:=az (B:=w.heap.size) (a:=w) (by go_grown) e (by simp;omega);have g:=((Blk.now _ w.heap.size _ _ rfl).past _ |>.past _).later e;have E:=((Blk.now _ (w.heap.size+1) _ _ sM).past _).later e;have bC:=(Blk.now _ (w.heap.size+1+1) _ _ sM).later e;obtain ⟨C,p,s⟩:=zh3 g E bC;have T:=fun i=>g.cell i;clear g E bC e
 go_wp2_with (refine lG p.o ?_)
 refine qM (eh t.h t.v t.c d W nw q B nb cb _ l.o.h l.o.v l.o.c Q.o.out R.o.n_eq.symm P.o.n_eq.symm D.o.1 D.o.2) fun w2 e=>?_;have H:=az G e G.size;have X:=s.o.lt;have Y:=e.size;obtain ⟨C,p,s⟩:=zh3 (C.o.later e) (p.o.later e) (s.o.later e);clear e T;rw [S.o];simp only [aY];have s:=zH (s.o.past (.cells (sN L M N) 23));have U:Below w w (w2.alloc (.cells (sN L M N) 23)):=H.alloc H.size _;have fC:=fun i=>s.o.frozen i;have cC:=fun i=>s.o.cell i;have Z:=U.size;go_wp2_with fail;refine ret_cell_tmp rfl ((((s.o.set_ 0 _).set_ 1 _).set_ 2 _).set_ 3 _) rfl underlying255 kM rfl ?_;exact aT.none (by go_grown)
theorem vo (t:ae) (A:QA) (n s:Nat) (d:af) (W:QA) (nw b:Nat) (B:QA) (nb cb:Nat) (w:World) (k:aw t) (g:aQ d)
  (l:xA w A n s t.data) (m:xA w W nw b d.w) (e:xB w B nb cb d.bias) (p:¬ t.ok=true) :
  Calls prog 193 #[.agg (tN t.h t.v t.c A n s),.agg (nD d W nw b B nb cb)] w (aT .i32 ak 5 w):=by
 obtain ⟨y,x,f,z,q⟩:=zh5 k g l m e;have F:n≤9223372036854775807:=lT l.cap_le l.max_le;have G:nw≤9223372036854775807:=lT m.cap_le m.max_le;have H:nb≤9223372036854775807:=lT e.cap_le e.max_le;clear k g l m e;have r:decide (0 < ag t.h t.v t.c∧ag t.h t.v t.c=n)=false:=by rw [← f.o.n_eq];simpa [ae.ok] using p
 have j:=zH r;clear p r;go_in;go_wp2_with fail;refine qM (av t.h t.v t.c A n s _ y.o.h y.o.v y.o.c (lT f.o.cap_le f.o.max_le)) fun I e=>?_;rw [j.o];have E:=az (B:=w.heap.size) (a:=w) (by go_grown) e (by simp;omega);have bC:=(Blk.now _ (w.heap.size+1+1) _ _ sM).later e;have D:=fun i=>bC.frozen i;have C:=fun i=>bC.cell i;clear e;go_wp2_with fail;refine ret_cell_tmp rfl ((((bC.set_ 0 _).set_ 1 _).set_ 2 _).set_ 3 _) rfl underlying255 kM rfl ?_;exact aT.none (by go_grown)
theorem tM (t:ae) (A:QA) (n r:Nat) (d:af) (W:QA) (nw q:Nat) (B:QA) (nb cb:Nat) (w:World) (J:aw t) (I:aQ d)
  (f:xA w A n r t.data) (y:xA w W nw q d.w) (e:xB w B nb cb d.bias) (K:nw≤1048576∧nb≤1048576) (F:t.ok=true) (j:¬ (bq t.h t.v t.c d).2=0) :
  Calls prog 193 #[.agg (tN t.h t.v t.c A n r),.agg (nD d W nw q B nb cb)] w (aT .i32 ak (bq t.h t.v t.c d).2 w):=by
 obtain ⟨l,Q,b,R,P⟩:=zh5 J I f y e;have m1:n≤9223372036854775807:=lT f.cap_le f.max_le;have m2:nw≤9223372036854775807:=lT y.cap_le y.max_le;have m3:nb≤9223372036854775807:=lT e.cap_le e.max_le;clear J I f y e;have D:=zH K;clear K;have m:decide (0 < ag t.h t.v t.c∧ag t.h t.v t.c=n)=true:=by rw [← b.o.n_eq];simpa [ae.ok] using F
 have O:=zH m;clear F m;obtain ⟨⟨⟨L,M,N⟩,k⟩,z⟩:∃ x,bq t.h t.v t.c d=x:=⟨_,rfl⟩;rw [z] at j ⊢;have V:(k != 0)=true:=by rw [bne_iff_ne];exact j
 have S:=zH z;clear z j;go_in;go_wp2_with fail;refine qM (av t.h t.v t.c A n r _ l.o.h l.o.v l.o.c (lT b.o.cap_le b.o.max_le)) fun w1 e=>?_;rw [O.o];have G:=az (B:=w.heap.size) (a:=w) (by go_grown) e (by simp;omega);have g:=((Blk.now _ w.heap.size _ _ rfl).past _ |>.past _).later e;have E:=((Blk.now _ (w.heap.size+1) _ _ sM).past _).later e;have bC:=(Blk.now _ (w.heap.size+1+1) _ _ sM).later e;obtain ⟨C,p,s⟩:=zh3 g E bC;have T:=fun i=>g.cell i;clear g E bC e
 go_wp2_with (refine lG p.o ?_)
 refine qM (eh t.h t.v t.c d W nw q B nb cb _ l.o.h l.o.v l.o.c Q.o.out R.o.n_eq.symm P.o.n_eq.symm D.o.1 D.o.2) fun w2 e=>?_;have H:=az G e G.size;have X:=s.o.lt;have Y:=e.size;obtain ⟨C,p,s⟩:=zh3 (C.o.later e) (p.o.later e) (s.o.later e);clear e T;rw [S.o];simp only [aY];have s:=zH (s.o.past (.cells (sN L M N) 23));have U:Below w w (w2.alloc (.cells (sN L M N) 23)):=H.alloc H.size _;have fC:=fun i=>s.o.frozen i;have cC:=fun i=>s.o.cell i;have Z:=U.size;go_wp2_with fail;refine ret_cell_tmp rfl ((((s.o.set_ 0 _).set_ 1 _).set_ 2 _).set_ 3 _) rfl underlying255 kM rfl ?_;exact aT.none (by go_grown)
theorem uV (t:ae) (A:QA) (n s:Nat) (d:af) (W:QA) (nw b:Nat) (B:QA) (nb cb:Nat) (w:World) (k:aw t) (g:aQ d)
  (l:xA w A n s t.data) (m:xA w W nw b d.w) (e:xB w B nb cb d.bias) (p:¬ t.ok=true) :
  Calls prog 194 #[.agg (tN t.h t.v t.c A n s),.agg (nD d W nw b B nb cb)] w (aT .i32 ak 5 w):=by
 obtain ⟨y,x,f,z,q⟩:=zh5 k g l m e;have F:n≤9223372036854775807:=lT l.cap_le l.max_le;have G:nw≤9223372036854775807:=lT m.cap_le m.max_le;have H:nb≤9223372036854775807:=lT e.cap_le e.max_le;clear k g l m e;have r:decide (0 < ag t.h t.v t.c∧ag t.h t.v t.c=n)=false:=by rw [← f.o.n_eq];simpa [ae.ok] using p
 have j:=zH r;clear p r;go_in;go_wp2_with fail;refine qM (av t.h t.v t.c A n s _ y.o.h y.o.v y.o.c (lT f.o.cap_le f.o.max_le)) fun I e=>?_;rw [j.o];have E:=az (B:=w.heap.size) (a:=w) (by go_grown) e (by simp;omega);have bC:=(Blk.now _ (w.heap.size+1+1) _ _ sM).later e;have D:=fun i=>bC.frozen i;have C:=fun i=>bC.cell i;clear e;go_wp2_with fail;refine ret_cell_tmp rfl ((((bC.set_ 0 _).set_ 1 _).set_ 2 _).set_ 3 _) rfl underlying255 kM rfl ?_;exact aT.none (by go_grown)
theorem tj (t:ae) (A:QA) (n r:Nat) (d:af) (W:QA) (nw q:Nat) (B:QA) (nb cb:Nat) (w:World) (J:aw t) (I:aQ d)
  (f:xA w A n r t.data) (y:xA w W nw q d.w) (e:xB w B nb cb d.bias) (K:nw≤1048576∧nb≤1048576) (F:t.ok=true) (j:¬ (bF t.h t.v t.c d).2=0) :
  Calls prog 194 #[.agg (tN t.h t.v t.c A n r),.agg (nD d W nw q B nb cb)] w (aT .i32 ak (bF t.h t.v t.c d).2 w):=by
 obtain ⟨l,Q,b,R,P⟩:=zh5 J I f y e;have m1:n≤9223372036854775807:=lT f.cap_le f.max_le;have m2:nw≤9223372036854775807:=lT y.cap_le y.max_le;have m3:nb≤9223372036854775807:=lT e.cap_le e.max_le;clear J I f y e;have D:=zH K;clear K;have m:decide (0 < ag t.h t.v t.c∧ag t.h t.v t.c=n)=true:=by rw [← b.o.n_eq];simpa [ae.ok] using F
 have O:=zH m;clear F m;obtain ⟨⟨⟨L,M,N⟩,k⟩,z⟩:∃ x,bF t.h t.v t.c d=x:=⟨_,rfl⟩;rw [z] at j ⊢;have V:(k != 0)=true:=by rw [bne_iff_ne];exact j
 have S:=zH z;clear z j;go_in;go_wp2_with fail;refine qM (av t.h t.v t.c A n r _ l.o.h l.o.v l.o.c (lT b.o.cap_le b.o.max_le)) fun w1 e=>?_;rw [O.o];have G:=az (B:=w.heap.size) (a:=w) (by go_grown) e (by simp;omega);have g:=((Blk.now _ w.heap.size _ _ rfl).past _ |>.past _).later e;have E:=((Blk.now _ (w.heap.size+1) _ _ sM).past _).later e;have bC:=(Blk.now _ (w.heap.size+1+1) _ _ sM).later e;obtain ⟨C,p,s⟩:=zh3 g E bC;have T:=fun i=>g.cell i;clear g E bC e
 go_wp2_with (refine lG p.o ?_)
 refine qM (il t.h t.v t.c d W nw q B nb cb _ l.o.h l.o.v l.o.c Q.o.out R.o.n_eq.symm P.o.n_eq.symm D.o.1 D.o.2) fun w2 e=>?_;have H:=az G e G.size;have X:=s.o.lt;have Y:=e.size;obtain ⟨C,p,s⟩:=zh3 (C.o.later e) (p.o.later e) (s.o.later e);clear e T;rw [S.o];simp only [aY];have s:=zH (s.o.past (.cells (sN L M N) 23));have U:Below w w (w2.alloc (.cells (sN L M N) 23)):=H.alloc H.size _;have fC:=fun i=>s.o.frozen i;have cC:=fun i=>s.o.cell i;have Z:=U.size;go_wp2_with fail;refine ret_cell_tmp rfl ((((s.o.set_ 0 _).set_ 1 _).set_ 2 _).set_ 3 _) rfl underlying255 kM rfl ?_;exact aT.none (by go_grown)
structure TOk (t:ae) (n H V C:Nat):Prop where
 h:t.h=H
 v:t.v=V
 c:t.c=C
 h1:1≤H∧H≤16
 v1:1≤V∧V≤16
 c1:1≤C∧C≤1024
 n_eq:n=H*V*C
 n_le:n≤1024
theorem iP {h v c:Int} (e:¬ ag h v c=0):∃ H V C:Nat,h=H∧v=V∧c=C∧(1≤H∧H≤16)∧(1≤V∧V≤16)∧(1≤C∧C≤1024)∧ag h v c=(H*V*C:Nat)∧H*V*C≤1024:=by
 rw [cO] at e ⊢;split at e
 ·rename_i q;obtain ⟨s,r,d,l,m,f,t⟩:=q;have a:h=(h.toNat:Int):=oM;have o:v=(v.toNat:Int):=oM;have i:c=(c.toNat:Int):=oM;have n:h*v*c=((h.toNat*v.toNat*c.toNat:Nat):Int):=by rw [Int.natCast_mul,Int.natCast_mul,← a,← o,← i]
  refine ⟨h.toNat,v.toNat,c.toNat,a,o,i,by omega,by omega,by omega,?_,?_⟩
  ·rw [if_pos ⟨s,r,d,l,m,f,t⟩];exact n
  ·have:=t;rw [n] at this;omega
 ·exact absurd rfl e
theorem fK {t:ae} (h:t.ok=true):∃ H V C,TOk t t.data.length H V C:=by
 simp only [ae.ok,decide_eq_true_eq] at h;obtain ⟨H,V,C,i,n,s,e,a,o,r,d⟩:=iP (h:=t.h) (v:=t.v) (c:=t.c) oM;exact ⟨H,V,C,i,n,s,e,a,o,by omega,by omega⟩
structure WOk (d:af) (H V C K S P Ho Wo Co:Nat):Prop where
 k:d.k=K
 s:d.s=S
 p:d.p=P
 k1:1≤K∧K≤5
 s1:1≤S∧S≤4
 p1:P≤4∧P < K
 ho:Ho=(H+2*P - K) / S+1
 wo:Wo=(V+2*P - K) / S+1
 hk:K≤H+2*P
 vk:K≤V+2*P
 ho1:1≤Ho∧Ho≤16
 wo1:1≤Wo∧Wo≤16
 co1:1≤Co∧Co≤1024
 no:Ho*Wo*Co≤1024
theorem pH {n:Nat} {k s p:Int} {x:Int} (h:aK n k s p=(x,0)):∃ K S P:Nat,k=K∧s=S∧p=P∧(1≤K∧K≤5)∧(1≤S∧S≤4)∧(P≤4∧P < K)∧K≤n+2*P∧x=((n+2*P - K) / S+1:Nat):=by
 unfold aK at h;split at h
 ·rename_i q;unfold eE at q;split at h
  ·cases (Prod.mk.inj h).2
  ·have e:=(Prod.mk.inj h).1;obtain ⟨t,o,i,r,d,l,c,m,f⟩:=q;refine ⟨k.toNat,s.toNat,p.toNat,by omega,by omega,by omega,by omega,by omega,by omega,by omega,?_⟩;rw [← e];have a:(n:Int)+2*p - k=((n+2*p.toNat - k.toNat:Nat):Int):=oM;have b:s=(s.toNat:Int):=oM;rw [a,b,Int.tdiv_eq_ediv_of_nonneg oM];simp
 ·cases (Prod.mk.inj h).2
theorem jY {H V C:Nat} {d:af} {o l c m:Int} (h:aH H V C d.k d.s d.p o=((l,c,m),0)):∃ K S P Ho Wo Co:Nat,WOk d H V C K S P Ho Wo Co∧l=Ho∧c=Wo∧m=Co∧o=Co∧ag l c m=(Ho*Wo*Co:Nat):=by
 unfold aH at h;by_cases f:ag H V C=0
 ·rw [if_pos f] at h;cases (Prod.mk.inj h).2
 rw [if_neg f] at h;by_cases e:(aK H d.k d.s d.p).2 ≠ 0
 ·rw [if_pos e] at h;exact absurd (Prod.mk.inj h).2 e
 rw [if_neg e] at h;by_cases t:(aK V d.k d.s d.p).2 ≠ 0
 ·rw [if_pos t] at h;exact absurd (Prod.mk.inj h).2 t
 rw [if_neg t] at h;by_cases c4:ag (aK H d.k d.s d.p).1 (aK V d.k d.s d.p).1 o=0
 ·rw [if_pos c4] at h;cases (Prod.mk.inj h).2
 rw [if_neg c4] at h;obtain ⟨W,w⟩:∃ y,aK H d.k d.s d.p=(y,0):=⟨(aK H d.k d.s d.p).1,by rw [← Decidable.not_not.1 e]⟩;obtain ⟨X,v⟩:∃ y,aK V d.k d.s d.p=(y,0):=⟨(aK V d.k d.s d.p).1,by rw [← Decidable.not_not.1 t]⟩;rw [w,v] at h c4;obtain ⟨K,S,P,I,N,L,k1,R,Q,n,T⟩:=pH w;obtain ⟨q,S',x,J,O,M,-,-,-,r,U⟩:=pH v;obtain rfl:K=q:=oM;obtain rfl:S=S':=oM;obtain rfl:P=x:=oM;obtain ⟨Ho,Wo,Co,b,g,a,z,A,B,j,D⟩:=iP c4;simp only at h b g a j;obtain ⟨i,-⟩:=Prod.mk.inj h;obtain ⟨E,i⟩:=Prod.mk.inj i;obtain ⟨F,G⟩:=Prod.mk.inj i;subst E F G;exact ⟨K,S,P,Ho,Wo,Co,⟨I,N,L,k1,R,Q,by omega,by omega,n,r,z,A,B,D⟩,b,g,a,a,j⟩
theorem pY {x y:ShE} {t out:Int} {d:af} (h:gI x t out d=y) (a:y.2=0):x=y∧(d.w.length:Int)=t∧d.w.length≤16384∧(d.bias.length:Int)=out:=by
 unfold gI at h;split at h
 ·rename_i q;subst h;exact absurd a q
 ·split at h
  ·subst h;cases a
  ·rename_i q;refine ⟨h,?_,?_,?_⟩
   ·exact Decidable.byContradiction fun e=>q (.inl e)
   ·exact Nat.not_lt.1 fun e=>q (.inr (.inl e))
   ·exact Decidable.byContradiction fun e=>q (.inr (.inr e))
def fL (t:ae) (d:af) (Wo Co:Nat) (i:Nat):Int:=wrap32 (d.bias.getD (i % Co) 0+jR t.h.toNat t.v.toNat t.c.toNat t.data d.za d.w d.k.toNat d.s.toNat d.p.toNat (i % Co) (i / Co / Wo) (i / Co % Wo))
def cg (t:ae) (d:af):ae × Int :=
 if t.ok=true then (if (bq t.h t.v t.c d).2=0 then (⟨(bq t.h t.v t.c d).1.1,(bq t.h t.v t.c d).1.2.1,(bq t.h t.v t.c d).1.2.2,
  (List.range (ag (bq t.h t.v t.c d).1.1 (bq t.h t.v t.c d).1.2.1 (bq t.h t.v t.c d).1.2.2).toNat).map (fL t d (bq t.h t.v t.c d).1.2.1.toNat (bq t.h t.v t.c d).1.2.2.toNat)⟩,0) else (ak,(bq t.h t.v t.c d).2)) else (ak,5)
theorem kR {t:ae} {d:af} (r:t.ok=true) (l:(bq t.h t.v t.c d).2=0):∃ H V C K S P Ho Wo Co:Nat,TOk t t.data.length H V C∧WOk d H V C K S P Ho Wo Co∧bq t.h t.v t.c d=(((Ho:Int),(Wo:Int),(Co:Int)),0)∧d.w.length=Co*K*K*C∧d.bias.length=Co∧d.out=Co∧ag Ho Wo Co=(Ho*Wo*Co:Nat) ∧
  cg t d=(⟨Ho,Wo,Co,(List.range (Ho*Wo*Co)).map (fL t d Wo Co)⟩,0):=by
 obtain ⟨H,V,C,T⟩:=fK r;obtain ⟨⟨⟨g,j,q⟩,e⟩,i⟩:∃ x,bq t.h t.v t.c d=x:=⟨_,rfl⟩;have o:=i;rw [i] at l;obtain rfl:e=0:=l;unfold bq at o;obtain ⟨a,b,-,c⟩:=pY o rfl;rw [T.h,T.v,T.c] at a;obtain ⟨K,S,P,Ho,Wo,Co,m,f,y,p,n,s⟩:=jY a;subst f y p;refine ⟨H,V,C,K,S,P,Ho,Wo,Co,T,m,i,?_,by omega,n,s,?_⟩
 ·rw [n,m.k,T.c] at b
  exact_mod_cast b
 ·unfold cg;rw [if_pos r,i,if_pos rfl];simp only [s,Int.toNat_natCast]
def dA (Wo Co h o w j:Nat):Bool:=decide (j / Co / Wo < h ∨ (j / Co / Wo=h∧(j % Co < o ∨ (j % Co=o∧j / Co % Wo < w))))
theorem zp (Wo Co h w o j:Nat) (d:w < Wo) (r:o < Co):j=(h*Wo+w)*Co+o ↔ j / Co / Wo=h∧j / Co % Wo=w∧j % Co=o:=by
 constructor
 ·rintro rfl;obtain ⟨t,e,s⟩:=nW h w Wo Co o d r;exact ⟨t,e,s⟩
 ·rintro ⟨a,i,n⟩;have t:=Nat.div_add_mod j Co;have e:=Nat.div_add_mod (j / Co) Wo;rw [a,i,Nat.mul_comm] at e;rw [← e,n,Nat.mul_comm] at t;omega
theorem wF (Wo Co h o w j:Nat) (t:w < Wo) (e:o < Co):(dA Wo Co h o w j || j == (h*Wo+w)*Co+o)=dA Wo Co h o (w+1) j:=by
 rw [Bool.eq_iff_iff];simp only [dA,Bool.or_eq_true,decide_eq_true_eq,beq_iff_eq,zp Wo Co h w o j t e];omega
theorem yt (Wo Co h o j:Nat) (e:0 < Wo):dA Wo Co h o Wo j=dA Wo Co h (o+1) 0 j:=by
 have:=Nat.mod_lt (j / Co) e;rw [Bool.eq_iff_iff];simp only [dA,decide_eq_true_eq];omega
theorem yr (Wo Co h j:Nat) (e:0 < Co):dA Wo Co h Co 0 j=dA Wo Co (h+1) 0 0 j:=by
 have:=Nat.mod_lt j e;rw [Bool.eq_iff_iff];simp only [dA,decide_eq_true_eq];omega
theorem wE (Wo Co j:Nat):dA Wo Co 0 0 0 j=false:=by
 simp only [dA,decide_eq_false_iff_not];rintro (h|⟨-,h|⟨-,h⟩⟩) <;> exact Nat.not_lt_zero _ h
theorem yq (Ho Wo Co j:Nat) (e:j < Ho*Wo*Co):dA Wo Co Ho 0 0 j=true:=by
 simp only [dA,decide_eq_true_eq];left;have:j / Co < Ho*Wo:=Nat.div_lt_of_lt_mul (by rw [Nat.mul_comm];exact e);exact Nat.div_lt_of_lt_mul (by rw [Nat.mul_comm];exact this)
end Go.Proofs.YtbecbfpoahhpnaaGreat
