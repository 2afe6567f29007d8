/- An input's beginning (layer 36): walk.fits, Net.Start. -/
import Derived.Test.YtbecbfpoahhpnaaGreatJ40
set_option linter.unusedVariables false
set_option linter.unusedSimpArgs false
set_option maxRecDepth 100000
set_option maxHeartbeats 16000000
namespace Go.Proofs.YtbecbfpoahhpnaaGreat
open Go.RowKit Go.ChangeShapes Go.WideShapes Tryz
theorem Ei {t:ae} {n:Nat} (h:t.data.length=n):decide (0 < ag t.h t.v t.c∧ag t.h t.v t.c=n)=t.ok:=by rw [← h];rfl
def fy (t:ae) (s:Sh3):Bool:=t.ok && ([t.h,t.v,t.c] == [s.1,s.2.1,s.2.2])
theorem mt (t:ae) (s:Sh3) (A:QA) (n a:Nat) (w:World) (j:aw t) (b:xA w A n a t.data) :
  Calls prog 33 #[.agg (tN t.h t.v t.c A n a),.agg (sN s.1 s.2.1 s.2.2)] w fun e w'=>e=.returned (.bool (fy t s))∧Below w w w':=by
 obtain ⟨i,d,l⟩:=s;obtain ⟨f,K⟩:=zh2 (fun w=>av t.h t.v t.c A n a w j.h j.v j.c (lT b.cap_le b.max_le)) (Ei b.n_eq);rw [K.o] at f;have m:=zH (show fy t (i,d,l)=(t.ok && ([t.h,t.v,t.c] == [i,d,l])) from rfl);obtain ⟨r,D⟩:∃ r,fy t (i,d,l)=r:=⟨_,rfl⟩;obtain ⟨p,k⟩:∃ x,t.h=x:=⟨_,rfl⟩;obtain ⟨B,z⟩:∃ x,t.v=x:=⟨_,rfl⟩;obtain ⟨y,g⟩:∃ x,t.c=x:=⟨_,rfl⟩;obtain ⟨ok,C⟩:∃ x,t.ok=x:=⟨_,rfl⟩;rw [D,k,z,g,C] at m;simp only [k,z,g,C] at f;rw [D,k,z,g];have J:=zH (fun w=>gg (P:=prog) (t:=23) (k0:=.i64) (k1:=.i64) (k2:=.i64) w underlying23 kM dM ⟨rfl,rfl,rfl⟩ underlying3 underlying3 underlying3 kM kM kM p B y i d l);obtain ⟨q,M⟩:∃ q,([p,B,y] == [i,d,l])=q:=⟨_,rfl⟩;simp only [M] at J m;clear j b K D k z g C M;have H:=zW w;obtain ⟨N,E,G,k1⟩:=nB w (tN p B y A n a) 29;replace H:=zN k1 H G;clear G k1;obtain ⟨O,F,I,k2⟩:=nB N (sN i d l) 23;replace H:=zN k2 H I;clear I k2;go_in
 go_wp2_with (refine lG H.o.1.2 ?_)
 refine qM (f.o _) fun Q L=>?_;replace H:=zF L H;clear L f E F;cases ok with
 | false =>
  go_wp2;go_ret;exact ⟨by rw [m.o] <;> rfl,H.o.1.1.out⟩
 | true =>
  go_wp2_with (first
   | (refine bU kM 23 (.tmp 8) rfl w.heap.size 0 rfl [.int .i64 p,.int .i64 B,.int .i64 y] _ (aq H.o.1.2 rfl) underlying23 rfl kM ?_)
   | (refine bU kM 23 (.tmp 3) rfl N.heap.size 0 rfl [.int .i64 i,.int .i64 d,.int .i64 l] _ (aq H.o.2 rfl) underlying23 rfl kM ?_)
   | (refine dI 23 _ (.tmp 9) (.tmp 10) rfl _ _ rfl rfl (by rfl) kM _ (J.o _) ?_))
  go_ret;exact ⟨by rw [m.o] <;> rfl,H.o.1.1.out⟩
abbrev pZ:Array Value:=#[.int .i64 0,.int .i64 0,.int .i64 0,.int .i64 0,.int .i64 0,.int .i64 0,.slice none 0 0,.int .i64 0,.int .i64 0,.int .i64 0,.slice none 0 0]
theorem Ac (t:ae) (A:QA) (n a:Nat) (w:World) :
  Calls prog 10 #[.pointer none,.agg (tN t.h t.v t.c A n a)] w fun e w'=>e=.returned (.tuple #[.agg (kF qd none 0 0 none 0 0),.int .i64 1])∧Below w w w':=by
 unfold kF;have H:=zW w;obtain ⟨f,i,s,k1⟩:=nB w (tN t.h t.v t.c A n a) 29;replace H:=zN k1 H s;clear s k1;obtain ⟨b,y,r,k2⟩:=nB f pZ 37;replace H:=zN k2 H r;clear r k2;have p:=zL i;go_in
 go_wp2_with (refine sG pZ H.o.2 ?_;intro g m d;have l:=zA d (zH H.o.1.1);clear d)
 refine rG m ?_;exact ⟨rfl,l.o.out⟩
def Cx (p:Pt) (code:Int) (w:World) (e:Ending) (w':World):Prop :=
 ∃ A n c B m d,e=.returned (.tuple #[.agg (kF p A n c B m d),.int .i64 code])∧Sl (ab .i8) w' (bin w w') A n c p.input.data∧Sl (ab .i8) w' (bin w w') B m d p.value.data∧Below w w w'
theorem Ab (t:ae) (g:Nat) (h v c:Int) (l0 x4 x5 x6:Value) (A:QA) (n a:Nat) (w:World) (s:Blk w g 99 #[.int .i64 h,.int .i64 v,.int .i64 c,l0,x4,x5,x6]) (X:aw t) (m:xA w A n a t.data) (hn:n≤300) :
  Calls prog 10 #[.pointer (some ⟨g,0,none⟩),.agg (tN t.h t.v t.c A n a)] w (Cx (if fy t (h,v,c)=true then ⟨0,0,0,t,t⟩ else qd) (if fy t (h,v,c)=true then 0 else 5) w):=by
 obtain ⟨O,C,x,B⟩:=zh4 (fun w m=>mt t (h,v,c) A n a w X m) (fun w F m=>jN t A n a w F m oM) (Old.now m) (show fy t (h,v,c)=true → t.ok=true from fun h=>by unfold fy at h;simp only [Bool.and_eq_true] at h;exact h.1);obtain ⟨r,W⟩:∃ r,fy t (h,v,c)=r:=⟨_,rfl⟩;simp only [W] at O B ⊢;unfold aT at C;unfold Cx kF;have l:=zH s;have H:=zW w;obtain ⟨w1,p,L,k1⟩:=nB w (tN t.h t.v t.c A n a) 29;replace H:=zN k1 H L;replace l:=zF k1 l;clear L k1;obtain ⟨k,J,M,k2⟩:=nB w1 pZ 37;replace H:=zN k2 H M;replace l:=zF k2 l;clear M k2 X m s W;have l1:=zL p;go_in
 go_upto_region 3 with fail
 clear p J;obtain ⟨S,T,N⟩:=zh3 (fun z:Ext k=>aq (off:=0) (vs:=[.int .i64 t.h,.int .i64 t.v,.int .i64 t.c,.slice A n a]) (H.o.1.2.ext z) rfl) (fun z:Ext k=>aq (off:=0) (vs:=[.int .i64 h,.int .i64 v,.int .i64 c]) (l.o.ext z) rfl) (fun z:Ext k=>aB z (O.o z.1 ((x.o.fut H.o.1.1.out).fut z.2).all));refine am k kM kM (qB _ _) ?_;refine aj kM 29 (.tmp 3) rfl w.heap.size 0 rfl _ _ (by rintro _ ⟨z,rfl⟩;exact S.o z) underlying29 rfl kM ?_;simp only [pX];repeat (go_big_quiet_step (fail))
 refine aj kM 23 (.tmp 18) rfl g 0 rfl _ _ (by rintro _ ⟨z,rfl⟩;exact T.o z) underlying23 rfl kM ?_;simp only [pX];repeat (go_big_quiet_step ((with_reducible exact N.o _)))
 refine wpQuiet_nil ?_;rintro wa ⟨⟨_,s⟩,rfl⟩;have l2:=H.o.2.lt;have P:=zH H.o.1.1;replace H:=zF s H;have K:=zH (Far.mk s);clear s S T N l;cases r with
 | false =>
  go_wp2_with (refine sG pZ H.o.2 ?_;intro w9 D b;have f:=zA b (zH H.o.1.1);clear b)
  refine rG D ?_;exact ⟨none,0,0,none,0,0,rfl,Sl.nil _ _ _,Sl.nil _ _ _,f.o.out⟩
 | true =>
  have d:=zH (aq (off:=0) (vs:=[.int .i64 t.h,.int .i64 t.v,.int .i64 t.c]) H.o.1.2 rfl);have y:=fun i=>H.o.1.2.cell i
  go_wp2_with (refine lM 23 (.tmp 24) d.o underlying23 ?_)
  refine (C.o _ (B.o (by trivial)) (x.o.fut H.o.1.1.out).all).mono ?_;rintro e w4 ⟨j,G,c4,rfl,Z,s⟩;have Q:=zH (New.of Z K.o);replace H:=zN s H Q;replace K:=zF s K;clear s Z Q y d;have d:=zH (aq (off:=0) (vs:=[.int .i64 t.h,.int .i64 t.v,.int .i64 t.c]) H.o.1.1.2 rfl);have y:=fun i=>H.o.1.1.2.cell i
  go_wp2_with (first
   | (refine sF 29 (.tmp 6) (.tmp 29) (tN t.h t.v t.c j G c4) ?_;intro w5 U Y;replace H:=zN Y H U;obtain ⟨K,d⟩:=uz2 Y K d;clear U y;have y:=fun i=>H.o.1.1.1.2.cell i)
   | (refine lM 23 (.tmp 32) d.o underlying23 ?_))
  refine (C.o _ (B.o (by trivial)) (x.o.fut H.o.1.1.1.1.out).all).mono ?_;rintro e w6 ⟨q,I,E,rfl,q6,s⟩;have R:=zH (New.of q6 K.o);replace H:=zN s H R;clear s q6 R y d;have z5:=H.o.1.2.lt
  go_wp2_with (first
   | (refine sF 29 (.tmp 8) (.tmp 37) (tN t.h t.v t.c q I E) ?_;intro w7 V k7;replace H:=zN k7 H V;clear V)
   | (refine lG H.o.1.1.2 ?_)
   | (refine lG H.o.2 ?_)
   | (refine sG #[.int .i64 0,.int .i64 0,.int .i64 0,.int .i64 t.h,.int .i64 t.v,.int .i64 t.c,.slice j G c4,.int .i64 t.h,.int .i64 t.v,.int .i64 t.c,.slice q I E] H.o.1.1.1.1.2 ?_;intro w9 D b;have f:=zA b (zH (And.intro H.o.1.1.1.1.1.1 (And.intro H.o.1.1.1.2 H.o.1.2)))))
  refine rG D ?_;exact ⟨j,G,c4,q,I,E,rfl,f.o.2.1.since P.o,f.o.2.2.since P.o,f.o.1.out⟩
abbrev nK (u:Bun) (A:QA) (n cap:Nat) (B:QA) (nb cb:Nat) (C:QA) (nc cc:Nat):Array Value:=#[.int .i64 u.h,.int .i64 u.v,.int .i64 u.c,.int .i64 u.cl,.slice A n cap,.slice B nb cb,.slice C nc cc]
abbrev pK (a b s:Int) (t:ae) (X:QA) (nx cx:Nat) (x:ae) (Y:QA) (ny cy:Nat):Array Value:=#[.int .i64 a,.int .i64 b,.int .i64 s,.int .i64 t.h,.int .i64 t.v,.int .i64 t.c,.slice X nx cx,.int .i64 x.h,.int .i64 x.v,.int .i64 x.c,.slice Y ny cy]
def gA (u:Bun) (a b:Int):Bool:=decide (0≤a∧a < u.models.length∧0≤b∧b < (u.models.getD a.toNat []).length)
def ft (u:Bun) (s:Int) (t:ae):Bool:=decide (0≤s∧s≤1099511627776) && fy t (u.h,u.v,u.c)
def inW (u:Bun) (a b:Int):Sh3:=((fT u).getD a.toNat []).getD b.toNat (0,0,0)
def rightW (u:Bun) (a b s:Int) (t x:ae):Bool:=gA u a b && ft u s t && fy x (inW u a b) && (decide (0 < b) || jU x t)
def iQ (u:Bun) (a b s:Int) (t x:ae):Bool:=decide (a=u.models.length∧b=0) && ft u s t && jU x t
def mD (u:Bun) (a b s:Int) (t x:ae):Int:=if rightW u a b s t x=true then ((aO u).getD a.toNat []).getD b.toNat 0 else 0
theorem Sl.ins_at {w:World} {S:Nat → Prop} {A:QA} {n o:Nat} {l:List (List Sh3)} (h:Sl kt w S A n o l) (i:Nat) (hi:i < n) :
  ∃ r g off t s a,l[i]?=some r∧A=some ⟨g,off,none⟩∧w.cell? ⟨g,off+i,none⟩=some (.slice t s a)∧Sl dg w S t s a r:=by
 obtain ⟨r,g,off,v,y,d,p,-,m,c⟩:=h.cell1 rfl i hi;obtain ⟨t,a,e,f⟩:=aZ.1 m;simp only [List.cons.injEq,and_true] at e;subst e;exact ⟨r,g,off,t,_,a,y,d,c,f⟩
theorem xC (u:Bun) (A:QA) (n l:Nat) (B:QA) (nb cb:Nat) (C:QA) (Z Q:Nat) (a b s:Int) (t x:ae) (X:QA) (nx S:Nat) (Y:QA) (ny T:Nat) (w:World) (D:Sl bJ w (blo w) A n l u.models) :
  Calls prog 60 #[.agg (nK u A n l B nb cb C Z Q),.agg (pK a b s t X nx S x Y ny T)] w fun e w'=>e=.returned (.bool (gA u a b))∧Below w w w':=by
 obtain ⟨r,E⟩:∃ r,gA u a b=r:=⟨_,rfl⟩;rw [E];unfold gA at E;rw [D.n_eq] at E;have mx:=lT D.cap_le D.max_le;obtain ⟨R,q⟩:=zh2 E (Old.now D);have j:=zW w;obtain ⟨L,ad,I,F⟩:=nB w (nK u A n l B nb cb C Z Q) 92;obtain ⟨j,q⟩:=uz2 F j q;clear F;obtain ⟨d,al,M,G⟩:=nB L (pK a b s t X nx S x Y ny T) 37;obtain ⟨j,q,I⟩:=uz3 G j q I;clear G E D;have k4:∀ z:Ext d,z.1.cell? ⟨w.heap.size,4,none⟩=some (.slice A n l):=fun z=>(I.o.ext z).cell 4;have p0:∀ z:Ext d,z.1.cell? ⟨L.heap.size,0,none⟩=some (.int .i64 a):=fun z=>(M.o.ext z).cell 0;have p1:∀ z:Ext d,z.1.cell? ⟨L.heap.size,1,none⟩=some (.int .i64 b):=fun z=>(M.o.ext z).cell 1;have i:∀ (v:Bool) (p:World),r=v → Below d d p → Ending.returned (.bool v)=.returned (.bool r)∧Below w w p:=fun v p e c=>⟨by rw [e],(j.o.fut c).out⟩
 by_cases O:a < 0
 ·have q1:decide (0≤a)=false:=sO;have e:=i false;have N:r=false:=by rw [← R.o,decide_eq_false_iff_not];omega
  obtain ⟨y,f⟩:=zh2 N i;clear e N i O;go_in
  go_upto_region 1 with fail
  (try simp only [Act.put])
  refine am d kM kM (qB _ _) ?_;repeat (go_big_quiet_step (fail))
  refine wpQuiet_nil ?_;rintro _ ⟨⟨p,c⟩,rfl⟩;go_wp2;go_ret;exact f.o _ _ y.o c
 ·obtain ⟨k,rfl⟩:∃ k:Nat,a=k:=⟨a.toNat,by omega⟩;clear O;by_cases c2:k < n
  ·have p2:(k:Int) < (n:Int):=oM;obtain ⟨m,g,off,A',K,c',W,rfl,hS,U,H⟩:=q.o.all.model_at k c2;have mc:∀ z:Ext d,z.1.cell? ⟨g,off+k,none⟩=some (.slice A' K c'):=fun z=>gH U z;have V:(u.models.getD (k:Int).toNat []).length=K:=by rw [Int.toNat_natCast,aX W,H.n_eq]
   rw [V] at R;have an:=lT H.cap_le H.max_le;clear W U H V hS;by_cases P:b < 0
   ·have q3:decide (0≤b)=false:=sO;obtain ⟨y,f⟩:=zh2 (show r=false by rw [← R.o,decide_eq_false_iff_not];omega) i;clear i P;go_in
    go_upto_region 1 with fail
    (try simp only [Act.put])
    refine am d kM kM (qB _ _) ?_;repeat (go_big_quiet_step (fail))
    refine wpQuiet_nil ?_;rintro _ ⟨⟨p,c⟩,rfl⟩;go_wp2;go_ret;exact f.o _ _ y.o c
   ·have q3:decide (0≤b)=true:=sO;have J:0≤b:=oM;obtain ⟨v,hv⟩:∃ v,decide (b < (K:Int))=v:=⟨_,rfl⟩;obtain ⟨y,f⟩:=zh2 (show r=v by rw [← R.o,← hv];exact decide_eq_decide.2 ⟨fun h=>h.2.2.2,fun h=>⟨by omega,by omega,J,h⟩⟩) i;clear i P R;go_in
    go_upto_region 1 with fail
    (try simp only [Act.put])
    refine am d kM kM (qB _ _) ?_;repeat (go_big_quiet_step (fail))
    refine wpQuiet_nil ?_;rintro _ ⟨⟨p,c⟩,rfl⟩;go_wp2;go_ret;exact f.o _ _ y.o c
  ·have p2:decide ((k:Int) < (n:Int))=false:=sO;have ah:decide (n≤k)=true:=sO;obtain ⟨y,f⟩:=zh2 (show r=false by rw [← R.o,decide_eq_false_iff_not];omega) i;clear i;go_in
   go_upto_region 1 with fail
   (try simp only [Act.put])
   refine am d kM kM (qB _ _) ?_;repeat (go_big_quiet_step (fail))
   refine wpQuiet_nil ?_;rintro _ ⟨⟨p,c⟩,rfl⟩;go_wp2;go_ret;exact f.o _ _ y.o c
theorem pp (u:Bun) (A:QA) (n f:Nat) (B:QA) (nb cb:Nat) (C:QA) (J D:Nat) (a b s:Int) (t x:ae) (X:QA) (l d:Nat) (Y:QA) (K E:Nat) (w:World) (H:aw t) (I:xA w X l d t.data) :
  Calls prog 36 #[.agg (nK u A n f B nb cb C J D),.agg (pK a b s t X l d x Y K E)] w fun e w'=>e=.returned (.bool (ft u s t))∧Below w w w':=by
 have q:=zH (fun w P=>mt t (u.h,u.v,u.c) X l d w H P);obtain ⟨v,k⟩:∃ v,fy t (u.h,u.v,u.c)=v:=⟨_,rfl⟩;rw [k] at q;have R:=zH (show ft u s t=(decide (0≤s∧s≤1099511627776) && v) by unfold ft;rw [k]);obtain ⟨r,G⟩:∃ r,ft u s t=r:=⟨_,rfl⟩;rw [G] at R ⊢;have M:=zH (Old.now I);have i:=zW w;obtain ⟨L,T,p,i⟩:=nF i (nK u A n f B nb cb C J D) 92;obtain ⟨W,U,j,y⟩:=nB L (pK a b s t X l d x Y K E) 37;obtain ⟨i,p⟩:=uz2 y i p;clear y G k H I;have V:=j.o.cell 2;obtain ⟨N,O⟩:=zh2 (aq (off:=0) (vs:=[.int .i64 u.h,.int .i64 u.v,.int .i64 u.c]) p.o rfl) (aq (off:=3) (vs:=[.int .i64 t.h,.int .i64 t.v,.int .i64 t.c,.slice X l d]) j.o rfl);by_cases g:s < 0
 ·have Q:decide (0≤s)=false:=sO;have m:=zH (show r=false by rw [R.o,dF oM];rfl);clear g R;go_in;go_wp2;go_ret;exact ⟨by rw [m.o] <;> rfl,i.u⟩
 have Q:decide (0≤s)=true:=sO;by_cases z:1099511627776 < s
 ·have S:decide (s≤1099511627776)=false:=sO;have m:=zH (show r=false by rw [R.o,dF oM];rfl);clear g z R;go_in;go_wp2;go_ret;exact ⟨by rw [m.o] <;> rfl,i.u⟩
 have S:decide (s≤1099511627776)=true:=sO;have m:=zH (show r=v by rw [R.o,qT oM];rfl);clear g z R;go_in
 go_wp2_with (first
  | (refine bU kM 29 (.tmp 14) rfl L.heap.size 3 rfl [.int .i64 t.h,.int .i64 t.v,.int .i64 t.c,.slice X l d] _ O.o underlying29 rfl kM ?_)
  | (refine bU kM 23 (.tmp 17) rfl w.heap.size 0 rfl [.int .i64 u.h,.int .i64 u.v,.int .i64 u.c] _ N.o underlying23 rfl kM ?_)
  | (go_at_call 33;refine qM (q.o _ (M.o.fut i.u).all) fun Z F=>?_;replace i:=zF F i;clear F))
 go_ret;exact ⟨by rw [m.o] <;> rfl,i.u⟩
theorem pl (u:Bun) (A:QA) (n y:Nat) (B:QA) (nb cb:Nat) (C:QA) (K O:Nat) (a b s:Int) (t x:ae) (X:QA) (L I:Nat) (Y:QA) (E p:Nat) (w:World) (ht:aw t) (W:aw x) (M:Sl bJ w (blo w) A n y u.models) (hi:Sl kt w (blo w) C K O (fT u)) (hx:xA w X L I t.data) (hy:xA w Y E p x.data) :
  Calls prog 35 #[.agg (nK u A n y B nb cb C K O),.agg (pK a b s t X L I x Y E p)] w fun e w'=>e=.returned (.bool (rightW u a b s t x))∧Below w w w':=by
 obtain ⟨TH,SO,FI,SM,TW⟩:=zh5 (fun w M=>xC u A n y B nb cb C K O a b s t x X L I Y E p w M) (fun w hx=>pp u A n y B nb cb C K O a b s t x X L I Y E p w ht hx) (fun w ha=>mt x (inW u a b) Y E p w W ha) (fun w h h'=>kI x t Y X E p L I w h h') (show gA u a b=true → _ from fun h=>of_decide_eq_true h);obtain ⟨v1,h1⟩:∃ v,gA u a b=v:=⟨_,rfl⟩;obtain ⟨v2,h2⟩:∃ v,ft u s t=v:=⟨_,rfl⟩;obtain ⟨v3,h3⟩:∃ v,fy x (inW u a b)=v:=⟨_,rfl⟩;obtain ⟨v4,h4⟩:∃ v,jU x t=v:=⟨_,rfl⟩;have R:=zH (show rightW u a b s t x=(v1 && v2 && v3 && (decide (0 < b) || v4)) by unfold rightW;rw [h1,h2,h3,h4]);obtain ⟨r,hr⟩:∃ r,rightW u a b s t x=r:=⟨_,rfl⟩;rw [hr] at R ⊢;simp only [h1] at TH TW;simp only [h2] at SO;simp only [h3] at FI;simp only [h4] at SM;obtain ⟨HM,HI,HX,HY⟩:=zh4 (Old.now M) (Old.now hi) (Old.now hx) (Old.now hy);have d:=zW w;obtain ⟨G,S,BK,d⟩:=nF d (nK u A n y B nb cb C K O) 92;obtain ⟨f,T,H,Z⟩:=nB G (pK a b s t X L I x Y E p) 37;obtain ⟨d,BK⟩:=uz2 Z d BK;clear Z hr h1 h2 h3 h4 ht W M hi hx hy;obtain ⟨U,V,E1,E2⟩:=zh4 (fun z:Ext f=>aq (off:=0) (vs:=[.int .i64 u.h,.int .i64 u.v,.int .i64 u.c,.int .i64 u.cl,.slice A n y,.slice B nb cb,.slice C K O]) (BK.o.ext z) rfl) (fun z:Ext f=>aq (off:=0) (vs:=[.int .i64 a,.int .i64 b,.int .i64 s,.int .i64 t.h,.int .i64 t.v,.int .i64 t.c,.slice X L I,.int .i64 x.h,.int .i64 x.v,.int .i64 x.c,.slice Y E p]) (H.o.ext z) rfl) (fun z:Ext f=>aB z (TH.o z.1 ((HM.o.fut d.u).fut z.2).all)) (fun z:Ext f=>aB z (SO.o z.1 ((HX.o.fut d.u).fut z.2).all));cases v1 with
 | false =>
  have N:=zH (show r=false from R.o);clear R;go_in
  go_upto_region 1 with fail
  (try simp only [Act.put])
  clear S T;refine am f kM kM (qB _ _) ?_;refine aj kM 92 (.tmp 2) rfl w.heap.size (0) rfl _ _ (by rintro _ ⟨z,rfl⟩;exact U.o z) underlying92 rfl kM ?_;simp only [pX];refine aj kM 37 (.tmp 3) rfl G.heap.size (0) rfl _ _ (by rintro _ ⟨z,rfl⟩;exact V.o z) underlying37 rfl kM ?_;simp only [pX];repeat (go_big_quiet_step (first|exact E1.o _))
  refine wpQuiet_nil ?_;rintro _ ⟨⟨wa,J⟩,rfl⟩;go_wp2;go_ret;exact ⟨by rw [N.o] <;> rfl,(d.o.fut J).out⟩
 | true =>
 cases v2 with
 | false =>
  have N:=zH (show r=false from R.o);clear R;go_in
  go_upto_region 1 with fail
  (try simp only [Act.put])
  clear S T;refine am f kM kM (qB _ _) ?_;refine aj kM 92 (.tmp 2) rfl w.heap.size (0) rfl _ _ (by rintro _ ⟨z,rfl⟩;exact U.o z) underlying92 rfl kM ?_;simp only [pX];refine aj kM 37 (.tmp 3) rfl G.heap.size (0) rfl _ _ (by rintro _ ⟨z,rfl⟩;exact V.o z) underlying37 rfl kM ?_;simp only [pX]
  iterate 3 (go_big_quiet_step (first|exact E1.o _))
  refine aj kM 92 (.tmp 2) rfl w.heap.size (0) rfl _ _ (by rintro _ ⟨z,rfl⟩;exact U.o z) underlying92 rfl kM ?_;simp only [pX];refine aj kM 37 (.tmp 3) rfl G.heap.size (0) rfl _ _ (by rintro _ ⟨z,rfl⟩;exact V.o z) underlying37 rfl kM ?_;simp only [pX];repeat (go_big_quiet_step (first|exact E2.o _))
  refine wpQuiet_nil ?_;rintro _ ⟨⟨wa,J⟩,rfl⟩;go_wp2;go_ret;exact ⟨by rw [N.o] <;> rfl,(d.o.fut J).out⟩
 | true =>
 obtain ⟨a1,a2,b1,b2⟩:=TW.o rfl;obtain ⟨k,rfl⟩:∃ k:Nat,a=k:=⟨a.toNat,by omega⟩;obtain ⟨j,rfl⟩:∃ j:Nat,b=j:=⟨b.toNat,by omega⟩;have an:=HI.o.all.n_eq;have lI:(fT u).length=u.models.length:=by unfold fT;rw [List.length_map]
 obtain ⟨row,g,off,C',n',c',D,rfl,hc,hs⟩:=(HI.o.fut d.u).all.ins_at k oM;obtain ⟨m,M⟩:∃ m,u.models[k]?=some m:=⟨_,List.getElem?_eq_getElem oM⟩;have l:=p9 M;rw [l] at D;obtain rfl:=sI D;have lm:(u.models.getD (k:Int).toNat []).length=m.length:=by rw [Int.toNat_natCast,aX M]
 rw [lm] at b2;have lr:(gJ m (u.h,u.v,u.c)).length=m.length+1:=by unfold gJ;rw [List.length_map,List.length_range]
 have ah:=hs.n_eq;obtain ⟨g2,F,rfl,-,-,-,-,-,Q,P⟩:=hs.shape_at j oM;obtain ⟨s3,e3⟩:∃ q,(gJ m (u.h,u.v,u.c)).getD j (0,0,0)=q:=⟨_,rfl⟩;rw [e3] at Q P;have IW:=zH (show inW u (k:Int) (j:Int)=s3 by unfold inW;rw [Int.toNat_natCast,Int.toNat_natCast,aX l,aX Q]);rw [IW.o] at FI;have mc:∀ z:Ext f,z.1.cell? ⟨g,off+k,none⟩=some (.slice (some ⟨g2,F,none⟩) n' c'):=fun z=>gH hc z;obtain ⟨RT,RS,E3⟩:=zh3 (fun z:Ext f=>aq (off:=7) (vs:=[.int .i64 x.h,.int .i64 x.v,.int .i64 x.c,.slice Y E p]) (H.o.ext z) rfl) (fun z:Ext f=>(fun i v hv=>gH (P i v hv) z:z.1.rangeAt g2 (F+j*3) [.int .i64 s3.1,.int .i64 s3.2.1,.int .i64 s3.2.2])) (fun z:Ext f=>aB z (FI.o z.1 ((HY.o.fut d.u).fut z.2).all));have k6:∀ z:Ext f,z.1.cell? ⟨w.heap.size,6,none⟩=some (.slice (some ⟨g,off,none⟩) K O):=fun z=>(BK.o.ext z).cell 6;have p0:∀ z:Ext f,z.1.cell? ⟨G.heap.size,0,none⟩=some (.int .i64 k):=fun z=>(H.o.ext z).cell 0;have p1:∀ z:Ext f,z.1.cell? ⟨G.heap.size,1,none⟩=some (.int .i64 j):=fun z=>(H.o.ext z).cell 1;have kn:k < K:=oM;have jn:j < n':=oM;have al:(k:Int) < (K:Int):=oM;have ad:(j:Int) < (n':Int):=oM;clear e3 D l M lm lr P Q hs hc an lI a1 a2 b1 b2 ah TW IW TH SO FI;go_in
 go_upto_region 1 with fail
 (try simp only [Act.put])
 clear S T;refine am f kM kM (qB _ _) ?_;refine aj kM 92 (.tmp 2) rfl w.heap.size (0) rfl _ _ (by rintro _ ⟨z,rfl⟩;exact U.o z) underlying92 rfl kM ?_;simp only [pX];refine aj kM 37 (.tmp 3) rfl G.heap.size (0) rfl _ _ (by rintro _ ⟨z,rfl⟩;exact V.o z) underlying37 rfl kM ?_;simp only [pX]
 iterate 3 (go_big_quiet_step (first|exact E1.o _))
 refine aj kM 92 (.tmp 2) rfl w.heap.size (0) rfl _ _ (by rintro _ ⟨z,rfl⟩;exact U.o z) underlying92 rfl kM ?_;simp only [pX];refine aj kM 37 (.tmp 3) rfl G.heap.size (0) rfl _ _ (by rintro _ ⟨z,rfl⟩;exact V.o z) underlying37 rfl kM ?_;simp only [pX]
 iterate 5 (go_big_quiet_step (first|exact E2.o _))
 refine aj kM 29 (.tmp 16) rfl G.heap.size (7) rfl _ _ (by rintro _ ⟨z,rfl⟩;exact RT.o z) underlying29 rfl kM ?_;simp only [pX]
 iterate 9 (go_big_quiet_step (fail))
 refine aj kM 23 (.tmp 26) rfl g2 (F+j*3) rfl _ _ (by rintro _ ⟨z,rfl⟩;exact RS.o z) underlying23 rfl kM ?_;simp only [pX];repeat (go_big_quiet_step (first|exact E3.o _))
 refine wpQuiet_nil ?_;rintro wa ⟨⟨_,J⟩,rfl⟩;obtain ⟨d,H⟩:=uz2 J d H;clear J U V RT RS E1 E2 E3 mc k6 p0 p1;have p1:=H.o.cell 1;cases v3 with
 | false =>
  go_wp2;go_ret;exact ⟨by rw [R.o] <;> rfl,d.u⟩
 | true =>
 obtain ⟨RX,RY⟩:=zh2 (aq (off:=7) (vs:=[.int .i64 x.h,.int .i64 x.v,.int .i64 x.c,.slice Y E p]) H.o rfl) (aq (off:=3) (vs:=[.int .i64 t.h,.int .i64 t.v,.int .i64 t.c,.slice X L I]) H.o rfl);by_cases cj:0 < j
 ·have q1:decide ((0:Int) < (j:Int))=true:=sO;have N:=zH (show r=true by rw [R.o,q1];rfl);clear R;go_wp2;go_ret;exact ⟨by rw [N.o] <;> rfl,d.u⟩
 ·obtain rfl:j=0:=oM;have N:=zH (show r=v4 by rw [R.o];rfl);clear R
  go_wp2_with (first
   | (refine bU kM 29 (.tmp 35) rfl G.heap.size 7 rfl [.int .i64 x.h,.int .i64 x.v,.int .i64 x.c,.slice Y E p] _ RX.o underlying29 rfl kM ?_)
   | (refine bU kM 29 (.tmp 37) rfl G.heap.size 3 rfl [.int .i64 t.h,.int .i64 t.v,.int .i64 t.c,.slice X L I] _ RY.o underlying29 rfl kM ?_)
   | (go_at_call 37;refine qM (SM.o _ (HY.o.fut d.u).all (HX.o.fut d.u).all) fun w3 J=>?_;replace d:=zF J d;clear J))
  go_ret;exact ⟨by rw [N.o] <;> rfl,d.u⟩
theorem lV (u:Bun) (A:QA) (n i:Nat) (B:QA) (nb cb:Nat) (C:QA) (G j:Nat) (a b s:Int) (t x:ae) (X:QA) (y l:Nat) (Y:QA) (p m:Nat) (g:Nat) (w:World) (q:Blk w g 99 (nK u A n i B nb cb C G j)) (M:aw t) (f:aw x) (D:Sl bJ w (blo w) A n i u.models) (hi:Sl kt w (blo w) C G j (fT u)) (E:xA w X y l t.data) (F:xA w Y p m x.data) :
  Calls prog 11 #[.pointer (some ⟨g,0,none⟩),.agg (pK a b s t X y l x Y p m)] w fun e w'=>e=.returned (.bool (rightW u a b s t x))∧Below w w w':=by
 obtain ⟨K,Q,P,R,S⟩:=zh5 (fun w D hi E F=>pl u A n i B nb cb C G j a b s t x X y l Y p m w M f D hi E F) (Old.now D) (Old.now hi) (Old.now E) (Old.now F);obtain ⟨r,L⟩:∃ r,rightW u a b s t x=r:=⟨_,rfl⟩;rw [L] at K ⊢;have I:=zH q;have d:=zW w;obtain ⟨H,J,N,k⟩:=nB w (pK a b s t X y l x Y p m) 37;obtain ⟨d,I⟩:=uz2 k d I;clear k L M f D hi E F q;obtain ⟨T,U,O⟩:=zh3 (fun z:Ext H=>aq (off:=0) (vs:=[.int .i64 u.h,.int .i64 u.v,.int .i64 u.c,.int .i64 u.cl,.slice A n i,.slice B nb cb,.slice C G j]) (I.o.ext z) rfl) (fun z:Ext H=>aq (off:=0) (vs:=[.int .i64 a,.int .i64 b,.int .i64 s,.int .i64 t.h,.int .i64 t.v,.int .i64 t.c,.slice X y l,.int .i64 x.h,.int .i64 x.v,.int .i64 x.c,.slice Y p m]) (N.o.ext z) rfl) (fun z:Ext H=>aB z (K.o z.1 ((Q.o.fut d.u).fut z.2).all ((P.o.fut d.u).fut z.2).all ((R.o.fut d.u).fut z.2).all ((S.o.fut d.u).fut z.2).all));go_in
 go_upto_region 1 with fail
 (try simp only [Act.put])
 clear J;refine am H kM kM (qB _ _) ?_
 iterate 6 (go_big_quiet_step (fail))
 refine aj kM 92 (.tmp 10) rfl g (0) rfl _ _ (by rintro _ ⟨z,rfl⟩;exact T.o z) underlying92 rfl kM ?_;simp only [pX];refine aj kM 37 (.tmp 3) rfl w.heap.size (0) rfl _ _ (by rintro _ ⟨z,rfl⟩;exact U.o z) underlying37 rfl kM ?_;simp only [pX];repeat (go_big_quiet_step (first|exact O.o _))
 refine wpQuiet_nil ?_;rintro _ ⟨⟨V,q⟩,rfl⟩;go_wp2;go_ret;exact ⟨rfl,(d.o.fut q).out⟩
theorem tQ (u:Bun) (A:QA) (n d:Nat) (B:QA) (nb cb:Nat) (C:QA) (K H:Nat) (a b s:Int) (t x:ae) (X:QA) (k y:Nat) (Y:QA) (j p:Nat) (g:Nat) (w:World) (l:Blk w g 99 (nK u A n d B nb cb C K H)) (ht:aw t) (S:aw x) (I:Sl bJ w (blo w) A n d u.models) (hi:Sl kt w (blo w) C K H (fT u)) (J:xA w X k y t.data) (hy:xA w Y j p x.data) :
  Calls prog 12 #[.pointer (some ⟨g,0,none⟩),.agg (pK a b s t X k y x Y j p)] w fun e w'=>e=.returned (.bool (iQ u a b s t x))∧Below w w w':=by
 obtain ⟨O,N⟩:=zh2 (fun w J=>pp u A n d B nb cb C K H a b s t x X k y Y j p w ht J) (fun w h h'=>kI x t Y X j p k y w h h');obtain ⟨T,P⟩:∃ v,ft u s t=v:=⟨_,rfl⟩;obtain ⟨v4,Q⟩:∃ v,jU x t=v:=⟨_,rfl⟩;have R:=zH (show iQ u a b s t x=(decide (a=(n:Int)∧b=0) && T && v4) by unfold iQ;rw [P,Q,I.n_eq]);obtain ⟨r,hr⟩:∃ r,iQ u a b s t x=r:=⟨_,rfl⟩;rw [hr] at R ⊢;simp only [P] at O;simp only [Q] at N;have mx:=lT I.cap_le I.max_le;obtain ⟨L,W,E⟩:=zh3 (Old.now J) (Old.now hy) l;have m:=zW w;obtain ⟨i,f,q,D⟩:=nB w (pK a b s t X k y x Y j p) 37;obtain ⟨m,E⟩:=uz2 D m E;clear D hr P Q ht S I hi J hy l;obtain ⟨Z,R1,RX,RT,V,E2⟩:=zh6 (fun z:Ext i=>aq (off:=0) (vs:=[.int .i64 u.h,.int .i64 u.v,.int .i64 u.c,.int .i64 u.cl,.slice A n d,.slice B nb cb,.slice C K H]) (E.o.ext z) rfl) (fun z:Ext i=>aq (off:=0) (vs:=[.int .i64 a,.int .i64 b,.int .i64 s,.int .i64 t.h,.int .i64 t.v,.int .i64 t.c,.slice X k y,.int .i64 x.h,.int .i64 x.v,.int .i64 x.c,.slice Y j p]) (q.o.ext z) rfl) (fun z:Ext i=>aq (off:=7) (vs:=[.int .i64 x.h,.int .i64 x.v,.int .i64 x.c,.slice Y j p]) (q.o.ext z) rfl) (fun z:Ext i=>aq (off:=3) (vs:=[.int .i64 t.h,.int .i64 t.v,.int .i64 t.c,.slice X k y]) (q.o.ext z) rfl) (fun z:Ext i=>aB z (O.o z.1 ((L.o.fut m.u).fut z.2).all)) (fun z:Ext i=>aB z (N.o z.1 ((W.o.fut m.u).fut z.2).all ((L.o.fut m.u).fut z.2).all));have k4:∀ z:Ext i,z.1.cell? ⟨g,4,none⟩=some (.slice A n d):=fun z=>(E.o.ext z).cell 4;have p0:∀ z:Ext i,z.1.cell? ⟨w.heap.size,0,none⟩=some (.int .i64 a):=fun z=>(q.o.ext z).cell 0;have p1:∀ z:Ext i,z.1.cell? ⟨w.heap.size,1,none⟩=some (.int .i64 b):=fun z=>(q.o.ext z).cell 1;clear O N L W;by_cases F:a=(n:Int);rotate_left
 ·have q1:(a == (n:Int))=false:=by simpa using F
  have M:=zH (show r=false by rw [R.o,dF (fun h=>F h.1)];rfl);clear R F;go_in
  go_upto_region 1 with fail
  (try simp only [Act.put])
  clear f;refine am i kM kM (qB _ _) ?_;repeat (go_big_quiet_step (fail))
  refine wpQuiet_nil ?_;rintro _ ⟨⟨U,l⟩,rfl⟩;go_wp2;go_ret;exact ⟨by rw [M.o] <;> rfl,(m.o.fut l).out⟩
 subst F;by_cases G:b=0;rotate_left
 ·have q1:(b == 0)=false:=by simpa using G
  have M:=zH (show r=false by rw [R.o,dF (fun h=>G h.2)];rfl);clear R G;go_in
  go_upto_region 1 with fail
  (try simp only [Act.put])
  clear f;refine am i kM kM (qB _ _) ?_;repeat (go_big_quiet_step (fail))
  refine wpQuiet_nil ?_;rintro _ ⟨⟨U,l⟩,rfl⟩;go_wp2;go_ret;exact ⟨by rw [M.o] <;> rfl,(m.o.fut l).out⟩
 subst G;have R3:=zH (show r=(T && v4) by rw [R.o,qT ⟨rfl,rfl⟩];rfl);clear R;cases T with
 | false =>
  go_in
  go_upto_region 1 with fail
  (try simp only [Act.put])
  clear f;refine am i kM kM (qB _ _) ?_
  iterate 23 (go_big_quiet_step (fail))
  refine aj kM 92 (.tmp 27) rfl g (0) rfl _ _ (by rintro _ ⟨z,rfl⟩;exact Z.o z) underlying92 rfl kM ?_;simp only [pX];refine aj kM 37 (.tmp 3) rfl w.heap.size (0) rfl _ _ (by rintro _ ⟨z,rfl⟩;exact R1.o z) underlying37 rfl kM ?_;simp only [pX];repeat (go_big_quiet_step (first|exact V.o _))
  refine wpQuiet_nil ?_;rintro _ ⟨⟨U,l⟩,rfl⟩;go_wp2;go_ret;exact ⟨by rw [R3.o] <;> rfl,(m.o.fut l).out⟩
 | true =>
  go_in
  go_upto_region 1 with fail
  (try simp only [Act.put])
  clear f;refine am i kM kM (qB _ _) ?_
  iterate 23 (go_big_quiet_step (fail))
  refine aj kM 92 (.tmp 27) rfl g (0) rfl _ _ (by rintro _ ⟨z,rfl⟩;exact Z.o z) underlying92 rfl kM ?_;simp only [pX];refine aj kM 37 (.tmp 3) rfl w.heap.size (0) rfl _ _ (by rintro _ ⟨z,rfl⟩;exact R1.o z) underlying37 rfl kM ?_;simp only [pX]
  iterate 4 (go_big_quiet_step (first|exact V.o _))
  refine aj kM 29 (.tmp 33) rfl w.heap.size (7) rfl _ _ (by rintro _ ⟨z,rfl⟩;exact RX.o z) underlying29 rfl kM ?_;simp only [pX];go_big_quiet_step (fail);refine aj kM 29 (.tmp 35) rfl w.heap.size (3) rfl _ _ (by rintro _ ⟨z,rfl⟩;exact RT.o z) underlying29 rfl kM ?_;simp only [pX];repeat (go_big_quiet_step (first|exact E2.o _))
  refine wpQuiet_nil ?_;rintro _ ⟨⟨U,l⟩,rfl⟩;go_wp2;go_ret;exact ⟨by rw [R3.o] <;> rfl,(m.o.fut l).out⟩
theorem m7 (u:Bun) (A:QA) (n F:Nat) (B:QA) (nb cb:Nat) (C:QA) (nc Z:Nat) (a b s:Int) (t x:ae) (X:QA) (T P:Nat) (Y:QA) (U Q:Nat) (g:Nat) (w:World) (p:Blk w g 99 (nK u A n F B nb cb C nc Z)) (ht:aw t) (M:aw x) (q:Sl bJ w (blo w) A n F u.models) (hi:Sl kt w (blo w) C nc Z (fT u)) (S:xA w X T P t.data) (I:xA w Y U Q x.data) (hc:Sl fi w (blo w) B nb cb (aO u)) :
  Calls prog 13 #[.pointer (some ⟨g,0,none⟩),.agg (pK a b s t X T P x Y U Q)] w fun e w'=>e=.returned (.int .i64 (mD u a b s t x))∧Below w w w':=by
 obtain ⟨V,W⟩:=zh2 (fun w p q hi S I=>lV u A n F B nb cb C nc Z a b s t x X T P Y U Q g w p ht M q hi S I) (show rightW u a b s t x=true → gA u a b=true from fun h=>by unfold rightW at h;simp only [Bool.and_eq_true] at h;exact h.1.1.1);obtain ⟨c,H⟩:∃ c,mD u a b s t x=c:=⟨_,rfl⟩;have R:=zH (show c=(if rightW u a b s t x=true then ((aO u).getD a.toNat []).getD b.toNat 0 else 0) from H.symm);obtain ⟨r,hr⟩:∃ r,rightW u a b s t x=r:=⟨_,rfl⟩;simp only [hr] at V R W;rw [H];obtain ⟨HM,HI,HX,HY,HC,J⟩:=zh6 (Old.now q) (Old.now hi) (Old.now S) (Old.now I) (Old.now hc) p;have i:=zW w;obtain ⟨w1,al,L,N⟩:=nB w (pK a b s t X T P x Y U Q) 37;obtain ⟨i,J⟩:=uz2 N i J;clear N hr H ht M q hi S I p hc;go_in
 go_wp2_with (refine lG L.o ?_)
 clear al;refine qM (V.o _ J.o (HM.o.fut i.u).all (HI.o.fut i.u).all (HX.o.fut i.u).all (HY.o.fut i.u).all) fun K p=>?_;obtain ⟨i,J,L⟩:=uz3 p i J L;clear p V;cases r with
 | false =>
  have O:=zH (show c=0 from R.o);clear R;go_wp2;go_ret;exact ⟨by rw [O.o] <;> rfl,i.u⟩
 | true =>
 have TH:=of_decide_eq_true (W.o rfl);obtain ⟨a1,a2,b1,b2⟩:=TH;obtain ⟨k,rfl⟩:∃ k:Nat,a=k:=⟨a.toNat,by omega⟩;obtain ⟨j,rfl⟩:∃ j:Nat,b=j:=⟨b.toNat,by omega⟩;have ah:=(HC.o.fut i.u).all.n_eq;have ad:=mS u;obtain ⟨m,q⟩:∃ m,u.models[k]?=some m:=⟨_,List.getElem?_eq_getElem oM⟩;have lm:(u.models.getD (k:Int).toNat []).length=m.length:=by rw [Int.toNat_natCast,aX q]
 rw [lm] at b2;obtain ⟨row,gr,off,v,l,hA,hS,-,D,d⟩:=(HC.o.fut i.u).all.cell1 rfl k oM;obtain ⟨A',c',e,hs⟩:=aZ.1 D;simp only [List.cons.injEq,and_true] at e;subst e hA;have f:=l;rw [iX q] at l;obtain rfl:=sI l;have lr:=jJ m (u.h,u.v,u.c) u.cl;obtain ⟨g2,E,rfl,-,-,G,an⟩:=hs.int_at j oM;have O:=zH (show c=(dW m (u.h,u.v,u.c) u.cl).getD j 0 by rw [R.o,if_pos rfl,Int.toNat_natCast,Int.toNat_natCast,aX f]);obtain ⟨y,I⟩:∃ y,(dW m (u.h,u.v,u.c) u.cl).getD j 0=y:=⟨_,rfl⟩;rw [I] at O G;have k5:∀ z:Ext K,z.1.cell? ⟨g,5,none⟩=some (.slice (some ⟨gr,off,none⟩) nb cb):=fun z=>(J.o.ext z).cell 5;have p0:∀ z:Ext K,z.1.cell? ⟨w.heap.size,0,none⟩=some (.int .i64 k):=fun z=>(L.o.ext z).cell 0;have p1:∀ z:Ext K,z.1.cell? ⟨w.heap.size,1,none⟩=some (.int .i64 j):=fun z=>(L.o.ext z).cell 1;have m1:∀ z:Ext K,z.1.cell? ⟨gr,off+k,none⟩=some (.slice (some ⟨g2,E,none⟩) (dW m (u.h,u.v,u.c) u.cl).length c'):=fun z=>gH d z;have m2:∀ z:Ext K,z.1.cell? ⟨g2,E+j,none⟩=some (.int .i64 y):=fun z=>gH G z;rw [lr] at m1;have kn:k < nb:=oM;have jn:j < m.length:=oM;have ay:(k:Int) < (nb:Int):=oM;have ac:(j:Int) < (m.length:Int):=oM;clear R f q lm lr d G hs an ah ad a1 a2 b1 b2 W I hS D
 go_upto_region 3 with fail
 (try simp only [Act.put])
 refine am K kM kM (qB _ _) ?_;repeat (go_big_quiet_step (fail))
 refine wpQuiet_nil ?_;rintro _ ⟨⟨wa,p⟩,rfl⟩;go_wp2;go_ret;exact ⟨by rw [O.o] <;> rfl,(i.o.fut p).out⟩
def jW (k j len:Nat) (t o:ae):Int × Int × ae:=if j+1=len then (((k+1:Nat):Int),0,t) else ((k:Int),((j+1:Nat):Int),o)
def DB (q:Int × Int × ae) (sp:Int) (t:ae) (D:Nat → Prop) (w:World) (e:Ending) (w':World):Prop :=
 ∃ X n c Y m d,e=.returned (.agg (pK q.1 q.2.1 sp t X n c q.2.2 Y m d))∧Sl (ab .i8) w' (bin w w') X n c t.data∧Sl (ab .i8) w' (fun b=>D b ∨ bin w w' b) Y m d q.2.2.data∧Below w w w'
theorem rU (u:Bun) (A:QA) (n N:Nat) (B:QA) (nb cb:Nat) (C:QA) (nc cc:Nat) (k j:Nat) (s:Int) (t x o:ae) (X:QA) (nx cx:Nat) (Y:QA) (ny cy:Nat) (Z:QA) (F l:Nat) (G:Int) (m:List aN) (D:Nat → Prop) (w:World) (hf:∀ b,D b → b < w.heap.size) (bt:t.ok=true) (hk:u.models[k]?=some m) (hj:j < m.length) (h8:m.length≤8) (bo:k < 8)
  (hm:Sl bJ w (blo w) A n N u.models) (V:xA w X nx cx t.data) (hz:Sl (ab .i8) w D Z F l o.data) (hn:nx≤140737488351232) :
  Calls prog 39 #[.agg (nK u A n N B nb cb C nc cc),.agg (pK (k:Int) (j:Int) s t X nx cx x Y ny cy),.agg (tN o.h o.v o.c Z F l),.int .i64 G] w (DB (jW k j m.length t o) G t D w):=by
 have TO:=zH (fun w ha=>jN t X nx cx w bt ha hn);unfold aT at TO;obtain ⟨q,hq⟩:∃ q,jW k j m.length t o=q:=⟨_,rfl⟩;rw [hq];obtain ⟨R,HX,HZ,HF,HM,HK⟩:=zh6 hq.symm (Old.now V) hz hf (Old.now hm) hk;have a:=zW w;obtain ⟨w1,w2,w3,ad,al,ac,_,_,_,L,i,BO,an⟩:=bk3 w (nK u A n N B nb cb C nc cc) 92 (pK (k:Int) (j:Int) s t X nx cx x Y ny cy) 37 (tN o.h o.v o.c Z F l) 29;replace a:=zF an a;clear an;obtain ⟨w4,ay,r,ah⟩:=nB w3 pZ 37;obtain ⟨a,L,i,BO⟩:=uz4 ah a L i BO;clear ah hq hk V hz hm hf;have l1:=zL ad;have l2:=zL al;have l3:=zL ac;have l4:=zL ay;have gj:IntKind.i64.wrap ((j:Int)+1)=((j+1:Nat):Int):=(wJ).trans sM;have gk:IntKind.i64.wrap ((k:Int)+1)=((k+1:Nat):Int):=(wJ).trans sM;obtain ⟨b0,b1⟩:=uc2 i 0 1;obtain ⟨K,Q⟩:∃ y:Nat,y=j+1:=⟨_,rfl⟩;obtain ⟨k1,S⟩:∃ y:Nat,y=k+1:=⟨_,rfl⟩;rw [← Q] at gj;rw [← S] at gk;obtain ⟨J1,K1⟩:=zh2 Q S;clear Q S;go_in
 go_wp2_with (first
  | (refine lG BO.o ?_)
  | (refine sF 37 (.tmp 9) (.tmp 17) (pK (k:Int) (K:Int) G ak none 0 0 o Z F l) ?_;intro w5 M k5;have l5:=k5.size;obtain ⟨a,L,i,r⟩:=uz4 k5 a L i r;clear k5 b0 b1 ad al ac ay;have b6:=i.o.cell 6;have SH:=zH (aq (off:=3) (vs:=[.int .i64 t.h,.int .i64 t.v,.int .i64 t.c]) i.o rfl))
  | (refine lM 23 (.tmp 20) SH.o underlying23 ?_))
 refine (TO.o _ (HX.o.fut a.u).all).mono ?_;rintro e w6 ⟨H,J,I,rfl,q6,E⟩;have d:=zH (New.of q6 (Far.refl _));have F0:=a;have l6:=E.size;have lr:=M.o.lt;obtain ⟨a,L,i,r,M⟩:=uz5 E a L i r M;clear E q6 b6 SH BO
 go_wp2_with (refine wpList_store_blk rfl 29 (.tmp 28) (.tmp 26) rfl w4.heap.size 3 (tN t.h t.v t.c H J I) rfl rfl _ (pK (k:Int) (K:Int) G ak none 0 0 o Z F l) (pK (k:Int) (K:Int) G t H J I o Z F l) M.o sM kM (by rw [← Array.all_toList];rfl) rfl ?_;intro w7 B7 P)
 have l7:=P.size;replace a:=zA P a;replace L:=zA P L;replace i:=zA P i;replace r:=zA P r;replace d:=zA P d;have M:=zH B7;clear P B7;obtain ⟨m',g,off,A',n',c',V,rfl,hS,hc,hs⟩:=(HM.o.fut a.u).all.model_at k (by have:=(HM.o.fut a.u).all.n_eq;have:=(List.getElem?_eq_some_iff.1 HK.o).1;omega);rw [HK.o] at V;obtain rfl:=sI V;have be:=hs.n_eq;subst be;have q1:∀ z:Ext w7,z.1.cell? ⟨w4.heap.size,1,none⟩=some (.int .i64 (K:Int)):=fun z=>(M.o.ext z).cell 1;have k4:∀ z:Ext w7,z.1.cell? ⟨w.heap.size,4,none⟩=some (.slice (some ⟨g,off,none⟩) n N):=fun z=>(L.o.ext z).cell 4;have p0:∀ z:Ext w7,z.1.cell? ⟨w1.heap.size,0,none⟩=some (.int .i64 (k:Int)):=fun z=>(i.o.ext z).cell 0;have mc:∀ z:Ext w7,z.1.cell? ⟨g,off+k,none⟩=some (.slice A' m.length c'):=fun z=>gH hc z;have kn:k < n:=by have:=HM.o.all.n_eq;have:=(List.getElem?_eq_some_iff.1 HK.o).1;omega
 have bn:(k:Int) < (n:Int):=oM;clear V hS hc hs
 go_upto_region 3 with fail
 (try simp only [Act.put])
 refine am w7 kM kM (qB _ _) ?_;repeat (go_big_quiet_step (fail))
 refine wpQuiet_nil ?_;rintro wa ⟨⟨_,E⟩,rfl⟩;have la:=E.size;obtain ⟨a,i,r,M,d⟩:=uz5 E a i r M d;clear E q1 k4 p0 mc L HM HK;by_cases ce:j+1=m.length
 ·have R2:=zH (show q=((k1:Int),0,t) by rw [R.o,K1.o];unfold jW;rw [if_pos ce]);have t1:((K:Int) == (m.length:Int))=true:=by have:=J1.o;simp;omega
  obtain ⟨b0,b6⟩:=uc2 i 0 6;clear R ce
  go_wp2_with (first
   | (refine wpList_store_one rfl 3 (.tmp 44) (.tmp 43) rfl w4.heap.size 0 (.int .i64 (k1:Int)) rfl rfl rfl rfl _ (pK (k:Int) (K:Int) G t H J I o Z F l) (pK (k1:Int) (K:Int) G t H J I o Z F l) M.o sM kM rfl ?_;intro w8 B8 T;have l8:=T.size;replace a:=zA T a;replace i:=zA T i;replace r:=zA T r;replace d:=zA T d;clear T b0 b6)
   | (refine wpList_store_one rfl 3 (.tmp 45) (.const (.int .i64 0)) rfl w4.heap.size 1 (.int .i64 0) rfl rfl rfl rfl _ (pK (k1:Int) (K:Int) G t H J I o Z F l) (pK (k1:Int) 0 G t H J I o Z F l) B8 sM kM rfl ?_;intro w9 B9 U;have l9:=U.size;replace a:=zA U a;replace i:=zA U i;replace r:=zA U r;replace d:=zA U d;clear U B8;have b6:=i.o.cell 6;have SH:=zH (aq (off:=3) (vs:=[.int .i64 t.h,.int .i64 t.v,.int .i64 t.c]) i.o rfl))
   | (refine lM 23 (.tmp 48) SH.o underlying23 ?_))
  refine (TO.o _ (HX.o.fut a.u).all).mono ?_;rintro e br ⟨X8,n8,c8,rfl,q8,E⟩;have W:=zH (New.of q8 (Far.refl _));have F1:=a;have bs:=E.size;obtain ⟨a,r⟩:=uz2 E a r;have BS:=zF E (zH B9);replace d:=zF E d;clear E q8 b6 SH i B9
  go_wp2_with (first
   | (refine wpList_store_blk rfl 29 (.tmp 56) (.tmp 54) rfl w4.heap.size 7 (tN t.h t.v t.c X8 n8 c8) rfl rfl _ (pK (k1:Int) 0 G t H J I o Z F l) (pK (k1:Int) 0 G t H J I t X8 n8 c8) BS.o sM kM (by rw [← Array.all_toList];rfl) rfl ?_;intro bd ax f;have bh:=f.size;replace a:=zA f a;replace r:=zA f r;replace d:=zA f d;replace W:=zA f W;clear f)
   | (refine lG ax ?_)
   | (refine sG (pK (k1:Int) 0 G t H J I t X8 n8 c8) r.o ?_;intro ba O p;replace a:=zA p a;replace d:=zA p d;replace W:=zA p W))
  refine ret_cell rfl O rfl underlying37 kM rfl ?_;rw [R2.o];exact ⟨H,J,I,X8,n8,c8,rfl,d.o.since F0.o,(W.o.since F1.o).more (fun b h=>.inr h),a.u⟩
 ·have R2:=zH (show q=((k:Int),(K:Int),o) by rw [R.o,J1.o];unfold jW;rw [if_neg ce]);have t1:((K:Int) == (m.length:Int))=false:=by have:=J1.o;simp;omega
  clear R ce TO i
  go_wp2_with (first
   | (refine lG M.o ?_)
   | (refine sG (pK (k:Int) (K:Int) G t H J I o Z F l) r.o ?_;intro ba O p;replace a:=zA p a;replace d:=zA p d))
  refine ret_cell rfl O rfl underlying37 kM rfl ?_;rw [R2.o];exact ⟨H,J,I,Z,F,l,rfl,d.o.since F0.o,(HZ.o.keep (fun y hy=>a.u.block y (HF.o y hy))).more (fun b h=>.inl h),a.u⟩
end Go.Proofs.YtbecbfpoahhpnaaGreat
