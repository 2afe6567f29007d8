/- Sums by kind (layer 26): run.Sum. -/
import Derived.Test.YtbecbfpoahhpnaaGreatJ32
import Derived.Test.YtbecbfpoahhpnaaGreatJ29
set_option linter.unusedVariables false
set_option linter.unusedSimpArgs false
set_option maxRecDepth 100000
set_option maxHeartbeats 16000000
namespace Go.Proofs.YtbecbfpoahhpnaaGreat
open Go.RowKit Go.ChangeShapes Go.WideShapes Tryz
theorem xH (t:ae) (A:QA) (n l:Nat) (d:af) (W:QA) (nw F:Nat) (B:QA) (nb cb:Nat) (w:World) (X:aw t) (V:aQ d)
  (J:xA w A n l t.data) (K:xA w W nw F d.w) (r:xB w B nb cb d.bias) (Y:nw≤2000∧nb≤200) :
  Calls prog 159 #[.agg (nD d W nw F B nb cb),.agg (tN t.h t.v t.c A n l)] w (aT .i32 (dB t d).1 (dB t d).2 w):=by
 obtain ⟨HA,HW,HB,FT,U,S1,S2,S3⟩:=zh8 J K r (fun w=>tB d W nw F B nb cb w) (fun (h3:d.k=3) (h1:d.s=1) w (J:xA w A n l t.data) (K:xA w W nw F d.w) (r:xB w B nb cb d.bias)=>wQ t A n l d W nw F B nb cb w X V J K r Y h3 h1) (fun w (J:xA w A n l t.data) (K:xA w W nw F d.w) (r:xB w B nb cb d.bias)=>vn t A n l d W nw F B nb cb w X V J K r Y) (fun w (J:xA w A n l t.data) (K:xA w W nw F d.w) (r:xB w B nb cb d.bias)=>uU t A n l d W nw F B nb cb w X V J K r Y) (fun w (J:xA w A n l t.data) (K:xA w W nw F d.w) (r:xB w B nb cb d.bias)=>uR t A n l d W nw F B nb cb w X V J K r);have i:=zW w;obtain ⟨w1,w2,Z,M,N,O,l1,l2,l3,G,P,m,an⟩:=bk3 w (nD d W nw F B nb cb) 84 (tN t.h t.v t.c A n l) 29 (tN 0 0 0 none 0 0) 255;replace i:=zF an i;clear an;have f:=G.o.cell 0;simp only [gX] at f;have E:=zH (show dB t d=if d.kind=1 then cg t d else if d.kind=2 then db t d else if d.kind=3 then dU t d else (ak,6) from rfl);obtain ⟨x,hx⟩:∃ x,dB t d=x:=⟨_,rfl⟩;rw [hx] at E ⊢;have HM:=zH Y;clear X V J K r hx Y;by_cases k1:d.kind=1
 ·rw [if_pos k1] at E;rw [E.o];have KE:=zH k1;have g:Z.cell? ⟨w.heap.size,0,none⟩=some (.int .i64 1):=by rw [← k1];exact f
  replace f:=g;clear g k1  E;by_cases T:d.k=3∧d.s=1
  ·have U:=zH (U.o T.1 T.2);rw [show decide (d.k=3∧d.s=1)=true from qT T] at FT;clear T;obtain ⟨y,I⟩:∃ y,cg t d=y:=⟨_,rfl⟩;rw [I] at U ⊢;clear I;go_in
   go_wp2_with (first|(refine bU kM 84 (.tmp 2) rfl w.heap.size 0 rfl _ _ (aq (vs:=[.int .i64 d.kind,.int .i64 d.a,.int .i64 d.b,.int .i64 d.k,.int .i64 d.s,.int .i64 d.p,.int .i64 d.out,.int .i8 d.za,.int .i8 d.zb,.slice W nw F,.slice B nb cb,.int .i32 d.qm,.int .i64 d.qs,.int .i8 d.qz,.int .i32 d.rm,.int .i64 d.rs,.int .i8 d.rz,.int .i8 d.lo,.int .i8 d.hi]) G.o rfl) underlying84 rfl kM ?_)|(refine lG G.o ?_)|(refine lG P.o ?_)|(go_at_call 191;refine qM (FT.o _) fun w4 r=>?_;have l4:=r.size;obtain ⟨i,G,P,m⟩:=uz4 r i G P m;clear r M N O f;have f:=G.o.cell 0;simp only [gX] at f;rw [KE.o] at f))
   refine (U.o _ (zO HA i) (zO HW i) (zO HB i)).mono ?_;rintro e S ⟨j,D,C,rfl,rs,r⟩;have Q:=zH (show New w4 (ab .i32) S j D C y.1.data from ⟨rs⟩);have q:=m.o.lt;have z:=i.o.size;obtain ⟨m,i⟩:=uz2 r m i;clear r rs f
   go_wp2_with (refine sG (tN y.1.h y.1.v y.1.c j D C) m.o ?_;intro w9 L H)
   refine rG L ?_;exact ⟨j,D,C,rfl,(Q.o.away H q).out.more (aW z (lR _)),(i.o.away H oM).out⟩
  ·rw [show decide (d.k=3∧d.s=1)=false from dF T] at FT;clear T U;obtain ⟨y,I⟩:∃ y,cg t d=y:=⟨_,rfl⟩;rw [I] at S1 ⊢;clear I;go_in
   go_wp2_with (first|(refine bU kM 84 (.tmp 2) rfl w.heap.size 0 rfl _ _ (aq (vs:=[.int .i64 d.kind,.int .i64 d.a,.int .i64 d.b,.int .i64 d.k,.int .i64 d.s,.int .i64 d.p,.int .i64 d.out,.int .i8 d.za,.int .i8 d.zb,.slice W nw F,.slice B nb cb,.int .i32 d.qm,.int .i64 d.qs,.int .i8 d.qz,.int .i32 d.rm,.int .i64 d.rs,.int .i8 d.rz,.int .i8 d.lo,.int .i8 d.hi]) G.o rfl) underlying84 rfl kM ?_)|(refine lG G.o ?_)|(refine lG P.o ?_)|(go_at_call 191;refine qM (FT.o _) fun w4 r=>?_;have l4:=r.size;obtain ⟨i,G,P,m⟩:=uz4 r i G P m;clear r M N O f;have f:=G.o.cell 0;simp only [gX] at f;rw [KE.o] at f))
   refine (S1.o _ (zO HA i) (zO HW i) (zO HB i)).mono ?_;rintro e S ⟨j,D,C,rfl,rs,r⟩;have Q:=zH (show New w4 (ab .i32) S j D C y.1.data from ⟨rs⟩);have q:=m.o.lt;have z:=i.o.size;obtain ⟨m,i⟩:=uz2 r m i;clear r rs f
   go_wp2_with (refine sG (tN y.1.h y.1.v y.1.c j D C) m.o ?_;intro w9 L H)
   refine rG L ?_;exact ⟨j,D,C,rfl,(Q.o.away H q).out.more (aW z (lR _)),(i.o.away H oM).out⟩
 rw [if_neg k1] at E;have t1:(d.kind == 1)=false:=by simpa using k1
 by_cases k2:d.kind=2
 ·rw [if_pos k2] at E;rw [E.o];have KE:=zH k2;have g:Z.cell? ⟨w.heap.size,0,none⟩=some (.int .i64 2):=by rw [← k2];exact f
  replace f:=g;clear g k2 t1 k1 E;obtain ⟨y,I⟩:∃ y,db t d=y:=⟨_,rfl⟩;rw [I] at S2 ⊢;clear I;go_in
  go_wp2_with (first|(refine lG G.o ?_)|(refine lG P.o ?_))
  refine (S2.o _ (zO HA i) (zO HW i) (zO HB i)).mono ?_;rintro e S ⟨j,D,C,rfl,rs,r⟩;have Q:=zH (show New Z (ab .i32) S j D C y.1.data from ⟨rs⟩);have q:=m.o.lt;have z:=i.o.size;obtain ⟨m,i⟩:=uz2 r m i;clear r rs f M N O
  go_wp2_with (refine sG (tN y.1.h y.1.v y.1.c j D C) m.o ?_;intro w9 L H)
  refine rG L ?_;exact ⟨j,D,C,rfl,(Q.o.away H q).out.more (aW z (lR _)),(i.o.away H oM).out⟩
 rw [if_neg k2] at E;have t2:(d.kind == 2)=false:=by simpa using k2
 by_cases R:d.kind=3
 ·rw [if_pos R] at E;rw [E.o];have KE:=zH R;have g:Z.cell? ⟨w.heap.size,0,none⟩=some (.int .i64 3):=by rw [← R];exact f
  replace f:=g;clear g R t1 t2 k1 k2 E;obtain ⟨y,I⟩:∃ y,dU t d=y:=⟨_,rfl⟩;rw [I] at S3 ⊢;clear I;go_in
  go_wp2_with (first|(refine lG G.o ?_)|(refine lG P.o ?_))
  refine (S3.o _ (zO HA i) (zO HW i) (zO HB i)).mono ?_;rintro e S ⟨j,D,C,rfl,rs,r⟩;have Q:=zH (show New Z (ab .i32) S j D C y.1.data from ⟨rs⟩);have q:=m.o.lt;have z:=i.o.size;obtain ⟨m,i⟩:=uz2 r m i;clear r rs f M N O
  go_wp2_with (refine sG (tN y.1.h y.1.v y.1.c j D C) m.o ?_;intro w9 L H)
  refine rG L ?_;exact ⟨j,D,C,rfl,(Q.o.away H q).out.more (aW z (lR _)),(i.o.away H oM).out⟩
 rw [if_neg R] at E;have t3:(d.kind == 3)=false:=by simpa using R
 rw [E.o];clear k1 k2 R;go_in
 go_wp2_with (refine sG (tN 0 0 0 none 0 0) m.o ?_;intro w9 L H)
 refine rG L ?_;exact aT.none (i.o.away H oM).out
theorem v6 (t:ae) (d:af) (h:(dB t d).2=0):ag (dB t d).1.h (dB t d).1.v (dB t d).1.c=((dB t d).1.data.length:Int)∧0 < (dB t d).1.data.length∧(dB t d).1.data.length≤1024∧aw (dB t d).1:=by
 unfold dB at h ⊢;by_cases k1:d.kind=1
 ·rw [if_pos k1] at h ⊢;unfold cg at h;by_cases o:t.ok=true
  ·rw [if_pos o] at h;by_cases a:(bq t.h t.v t.c d).2=0
   ·obtain ⟨H,V,C,K,S,P,Ho,Wo,Co,g,i,G,I,lb,X,s,l⟩:=kR o a;rw [l];have J:=i.ho1;have L:=i.wo1;have M:=i.co1;have f:=i.no;have y:0 < Ho*Wo*Co:=Nat.mul_pos (Nat.mul_pos oM oM) oM;simp only [List.length_map,List.length_range];exact ⟨s,y,f,⟨show InK .i64 (Ho:Int) by rw [ai];omega,show InK .i64 (Wo:Int) by rw [ai];omega,show InK .i64 (Co:Int) by rw [ai];omega⟩⟩
   ·rw [if_neg a] at h;exact absurd h a
  ·rw [if_neg o] at h;cases h
 rw [if_neg k1] at h ⊢;by_cases k2:d.kind=2
 ·rw [if_pos k2] at h ⊢;unfold db at h;by_cases o:t.ok=true
  ·rw [if_pos o] at h;by_cases a:(bF t.h t.v t.c d).2=0
   ·obtain ⟨H,V,C,K,S,P,Ho,Wo,g,i,G,I,lb,s,l⟩:=lQ o a;rw [l];have J:=i.ho1;have L:=i.wo1;have M:=i.co1;have f:=i.no;have y:0 < Ho*Wo*C:=Nat.mul_pos (Nat.mul_pos oM oM) oM;simp only [List.length_map,List.length_range];exact ⟨s,y,f,⟨show InK .i64 (Ho:Int) by rw [ai];omega,show InK .i64 (Wo:Int) by rw [ai];omega,show InK .i64 (C:Int) by rw [ai];omega⟩⟩
   ·rw [if_neg a] at h;exact absurd h a
  ·rw [if_neg o] at h;cases h
 rw [if_neg k2] at h ⊢;by_cases b:d.kind=3
 ·rw [if_pos b] at h ⊢;unfold dU at h ⊢;by_cases o:t.ok=true
  ·rw [if_pos o] at h ⊢;by_cases a:aR t.h t.v t.c d=0
   ·rw [if_pos a];have n:=a;unfold aR at n;split at n
    ·cases n
    ·rename_i q;split at n
     ·cases n
     ·rename_i r;have z:¬ ag 1 1 d.out=0:=fun e=>q (.inr e);have A:(d.bias.length:Int)=d.out:=Decidable.byContradiction fun e=>r (.inr (.inr e));obtain ⟨k,j,N,O,Q,R,T,U,W,p,x⟩:=iP z;have c4:=o;simp only [ae.ok,decide_eq_true_eq] at c4;have E:(d.w.length:Int)=d.out*ag t.h t.v t.c:=Decidable.byContradiction fun e=>r (.inl e);have F:d.w.length=t.data.length*d.bias.length:=by
       rw [c4.2,← A,← Int.natCast_mul,Nat.mul_comm] at E;omega
      have m:(bE t.data d.w d.bias d.za).length=d.bias.length:=by
       unfold bE;rw [if_neg (by rintro (h|h|h) <;> first|omega|exact h F)];simp
      have B:k=1:=oM;have D:j=1:=oM;subst B D;simp only [Nat.one_mul] at p x;refine ⟨?_,?_,?_,⟨show InK .i64 (1:Int) by rw [ai];omega,show InK .i64 (1:Int) by rw [ai];omega,?_⟩⟩
      ·show ag 1 1 d.out=_;rw [p,m];omega
      ·show 0 < (bE t.data d.w d.bias d.za).length;rw [m];omega
      ·show (bE t.data d.w d.bias d.za).length≤1024;rw [m];omega
      ·show InK .i64 d.out;rw [ai];omega
   ·rw [if_neg a] at h;exact absurd h a
  ·rw [if_neg o] at h;cases h
 rw [if_neg b] at h;cases h
def oy (t:ae) (d:af):ae × Int:=if (dB t d).2=0 then lk (dB t d).1 d else (ak,(dB t d).2)
theorem xP (t:ae) (A:QA) (n i:Nat) (d:af) (W:QA) (nw j:Nat) (B:QA) (nb cb:Nat) (w:World) (Z:aw t) (O:aQ d)
  (z:xA w A n i t.data) (J:xA w W nw j d.w) (s:xB w B nb cb d.bias) (mw:nw≤2000∧nb≤200) :
  Calls prog 121 #[.agg (nD d W nw j B nb cb),.agg (tN t.h t.v t.c A n i)] w (aT .i8 (oy t d).1 (oy t d).2 w):=by
 obtain ⟨HA,HW,HB,X,H⟩:=zh5 z J s (fun w (z:xA w A n i t.data) (J:xA w W nw j d.w) (s:xB w B nb cb d.bias)=>xH t A n i d W nw j B nb cb w Z O z J s mw) (v6 t d);unfold oy;obtain ⟨⟨y,k⟩,hy⟩:∃ q,dB t d=q:=⟨_,rfl⟩;rw [hy] at X H ⊢;obtain ⟨x,r⟩:∃ x,(if k=0 then lk y d else (ak,k))=x:=⟨_,rfl⟩;rw [show (if (y,k).2=0 then lk (y,k).1 d else (ak,(y,k).2))=x from r];obtain ⟨V,HD⟩:=zh2 r O;have a:=zW w;obtain ⟨w1,w2,w3,R,S,T,l1,l2,l3,g,C,l,E⟩:=bk3 w (nD d W nw j B nb cb) 84 (tN t.h t.v t.c A n i) 29 (tN 0 0 0 none 0 0) 29;replace a:=zF E a;clear E;clear Z O z J s hy mw r;go_in
 go_wp2_with (first|(refine lG g.o ?_)|(refine lG C.o ?_))
 refine (X.o _ (zO HA a) (zO HW a) (zO HB a)).mono ?_;rintro e w4 ⟨m,b,p,rfl,rs,s⟩;have D:=zH (show New w3 (ab .i32) w4 m b p y.data from ⟨rs⟩);have f:=rs.n_eq;have l4:=s.size;clear rs R S T;obtain ⟨a,g,C,l⟩:=uz4 s a g C l;clear s;obtain ⟨w5,G,BX,F⟩:=nB w4 (tN y.h y.v y.c m b p) 255;obtain ⟨a,g,C,l,D⟩:=uz5 F a g C l D;clear F;have l5:=zL G;by_cases k0:k=0
 ·subst k0;have r:=V.o;rw [if_pos rfl] at r;obtain ⟨L,M,N,Y⟩:=H.o rfl;simp only [f] at L M N;have U:=zH (fun w z=>we y m b p d W nw j B nb cb w Y HD.o z L M N);rw [r] at U;clear L M N Y r H f
  go_wp2_with (first|(refine lG BX.o ?_)|(refine lG g.o ?_))
  refine (U.o _ D.o.old).mono ?_;rintro e wm ⟨m,b,p,rfl,rs,s⟩;have D:=zH (show New w5 (ab .i8) wm m b p x.1.data from ⟨rs⟩);have P:=l.o.lt;have Q:=a.o.size;obtain ⟨l,a⟩:=uz2 s l a;clear s rs G
  go_wp2_with (refine sG (tN x.1.h x.1.v x.1.c m b p) l.o ?_;intro w9 K I)
  refine rG K ?_;exact ⟨m,b,p,rfl,(D.o.away I P).out.more (aW Q (lR _)),(a.o.away I oM).out⟩
 ·have r:=V.o;rw [if_neg k0] at r;subst r;have an:(k != 0)=true:=by rw [bne_iff_ne];exact k0
  clear k0 H f
  go_wp2_with (refine sG (tN 0 0 0 none 0 0) l.o ?_;intro w9 K I)
  refine rG K ?_;exact aT.none (a.o.away I oM).out
open Fx
theorem uO (N:Nat) (w:World) (t:N≤1024) :
  Calls prog 251 #[.int .u64 1,.int .u64 N] w fun e w'=>e=.returned (.tuple #[.int .u64 0,.int .u64 N])∧w=w':=by
 have B:=zH (fun w=>Tryz.bits_Mul64 1 N dM oM w);rw [show 1*N / 18446744073709551616=0 by omega,show 1*N % 18446744073709551616=N by omega] at B;go_in
 go_wp2_with (go_at_call 176;refine (B.o _).mono ?_;rintro e a ⟨rfl,rfl⟩)
 go_ret2
 exact ⟨rfl,rfl⟩
theorem pv (N k m:Nat) (v:Int) (h:k+m≤N):splice (List.replicate k v ++ List.replicate (N - k) 0) k (List.replicate m v)=List.replicate (k+m) v ++ List.replicate (N - (k+m)) 0:=by
 unfold splice;rw [List.take_append_of_le_length sM,List.take_of_length_le sM,List.length_replicate,List.drop_append];simp only [List.drop_replicate,List.length_replicate];rw [show k - (k+m)=0 by omega,List.replicate_zero,List.nil_append,← List.append_assoc,List.replicate_append_replicate,show N - k - (k+m - k)=N - (k+m) by omega]
theorem xF (v:Int) (N g:Nat) (w:World) (V:1≤N∧N≤1024) (W:InK .i8 v) (G:w.cell? ⟨g,0,none⟩=some (.int .i8 v)) (hg:g < w.heap.size) :
  Calls prog 237 #[.slice (some ⟨g,0,none⟩) 1 1,.int .i64 N] w fun e w'=>∃ q,e=.returned (.slice (some ⟨q,0,none⟩) N N)∧Own (ab .i8) w' (fun _=>False) w.heap.size 80 (.slice (some ⟨q,0,none⟩) N N) N (List.replicate N v)∧Below w w w':=by
 obtain ⟨R,Q,O⟩:=zh3 (fun w=>uO N w V.2) W G;have s:=zW w;have Z:IntKind.u64.wrap (N:Int)=(N:Int):=by rw [IntKind.wrap_u64];omega
 have c2:IntKind.i64.wrap (N:Int)=(N:Int):=wJ;have n1:¬ (9223372036854775807:Int) < (N:Int):=oM;have n2:¬ (N:Int) < 0:=oM;obtain ⟨J,an⟩:=V;clear W G;obtain ⟨d,l⟩:=zh2 (show ∀ x ∈ [v],InK .i8 x by intro x r;rw [List.mem_singleton] at r;subst r;exact Q.o) (show [v].length=Nat.min 1 N by show 1=min 1 N;omega);have y:=zH (show ∀ f:World,Below w w f → ∀ j,j < [v].length → f.cell? ((⟨g,0,none⟩:Addr).add j)=some (.int .i8 ([v].getD j 0)) by
  intro f D j H;obtain rfl:j=0:=by have:j < 1:=H;omega
  exact (D.cell (p:=⟨g,0,none⟩) hg).trans O.o)
 have b:=zH (show 0+[v].length≤N by show 1≤N;omega);go_in
 go_wp2_with (first|(go_at_call 251;refine (R.o _).mono ?_;rintro e w2 ⟨rfl,rfl⟩)|(at_make;refine wpList_make (t:=ab .i8) (S:=fun _=>False) (base:=w.heap.size) rfl _ _ rfl jc .i64 .i64 _ _ N rfl rfl rfl rfl ?_ ?_ ?_ 0 ⟨rfl,by decide⟩ (fun _ h=>h.elim) ?_;rotate_right;intro f n A;have D:Below w w f:=(qB _ _).grown A (lR _) sM;have c:=zH n;replace s:=zF D s;have lq:=n.lt _ rfl;have T:=zH (y.out f D);clear n A D)|(refine jO (k:=.i8) rfl (.tmp 31) (.tmp 32) 27 27 rfl 80 underlying27 kM c.o 0 N N rfl ⟨g,0,none⟩ 1 1 rfl [v] d.out l.out T.out b.out ?_;intro w4 a z))
 rotate_left
 ·omega
 ·unfold maxLen;omega
 ·omega
 have E:=zH (show Own (ab .i8) w4 (fun _=>False) w.heap.size 80 (.slice (some ⟨w.heap.size,0,none⟩) N N) N (List.replicate 1 v ++ List.replicate (N - 1) 0) by
  have:=pv N 0 1 v oM;simp only [List.replicate_zero,List.nil_append,Nat.sub_zero,Nat.zero_add] at this;rw [← this];exact a)
 replace s:=zH (s.o.away z (lR _));have c:=E;clear a z T d l y b E R O Z n1 n2;go_loopw [8] (fun M wr=>∃ k:Nat,1≤k∧k≤N∧M=.int .i64 k∧Far w wr∧Own (ab .i8) wr (fun _=>False) w.heap.size 80 (.slice (some ⟨w.heap.size,0,none⟩) N N) N (List.replicate k v ++ List.replicate (N - k) 0)) (fun M _=>N - (intOf M).toNat)
 case atStart=>exact ⟨1,lR _,J,rfl,s.o,c.o⟩
 case round =>
  obtain ⟨k,ah,ad,rfl,d,l⟩:=hrel;clear s c;obtain ⟨s,c⟩:=zh2 d l;clear d l;by_cases al:k < N
  ·have p1:(k:Int) < (N:Int):=oM;obtain ⟨m,L⟩:∃ m,Nat.min k (N - k)=m:=⟨_,rfl⟩;have B:1≤m∧k+m≤N:=by rw [← L];show 1≤min k (N - k)∧k+min k (N - k)≤N;omega
   have P:=zH L;have ne:¬ N=k:=oM;have k0:0≤(k:Int):=oM;have k2:(k:Int)≤(N:Int):=oM;have e1:IntKind.i64.wrap ((k:Int)+(m:Int))=((k+m:Nat):Int):=(wJ).trans oM;clear L;have F:Below w w wr.drew:=s.u.drew;obtain ⟨I,d,l⟩:=zh3 (c.o.heap (w':=wr.drew) rfl) (show ∀ x ∈ List.replicate m v,InK .i8 x by intro x r;rw [List.eq_of_mem_replicate r];exact Q.o) (show (List.replicate m v).length=Nat.min k (N - k) by rw [List.length_replicate];exact P.o.symm);have y:=zH (show ∀ j,j < (List.replicate m v).length → wr.drew.cell? ((⟨w.heap.size,0,none⟩:Addr).add j)=some (.int .i8 ((List.replicate m v).getD j 0)) by
    intro j H;rw [List.length_replicate] at H;have ac:m≤k:=by rw [← P.o];exact Nat.min_le_left _ _
    obtain ⟨x,u,r,hu,G,-⟩:=I.o.cell rfl j oM;rw [List.getElem?_append_left (by rw [List.length_replicate];omega),List.getElem?_replicate,if_pos oM] at r;injection r with r
    have C:=hu.1;simp only [List.cons.injEq,and_true] at C;have ha:(⟨w.heap.size,0,none⟩:Addr).add j=⟨w.heap.size,j,none⟩:=by unfold Addr.add;split <;> simp_all
    rw [ha,G,C,gD,List.getElem?_replicate,if_pos H,r]
    rfl)
   have b:=zH (show k+(List.replicate m v).length≤N by rw [List.length_replicate];exact B.2);go_wp2_with fail;refine aP (fun w'=>Below w w w') 9 kM ?_ (fun i=>?_)
   ·exact F
   refine kT' 0 i ?_;refine kT' 1 i ?_;refine kT' 2 i ?_;refine kT' 3 i ?_;refine kT' 4 i ?_;refine kT' 5 i ?_;refine kT' 6 i ?_;refine rT 7 (fun K U=>?_)
   (rw [if_pos (by rfl)];refine lf (k:=.i8) (.tmp 41) (.tmp 44) 27 27 rfl 80 underlying27 kM I.o k (N - k) (N - k) rfl ⟨w.heap.size,0,none⟩ k N rfl (List.replicate m v) d.out l.out y.out b.out ?_;intro w4 a z;have E:=zH a;clear a;refine U.out _ _ (F.grown z F.size (fun k e=>by injection e with e;omega)) (fun i=>?_))
   clear U K;try simp only [pX]
   refine kT' 8 i ?_;refine wpAnyT_tail _ _ rfl rfl kM ?_;have Y:=zH (show Far w w4 from ⟨i⟩);clear i d l y b I z F;go_wp2_with fail;have X:=E.o;rw [pv N k m v B.2] at X;exact ⟨⟨k+m,by omega,by omega,by go_num,Y.o,X⟩,by simp [intOf];omega⟩
  ·obtain rfl:k=N:=oM;go_wp2;go_ret;refine ⟨_,rfl,?_,s.u⟩;have:=c.o;rw [Nat.sub_self,List.replicate_zero,List.append_nil] at this;exact this
theorem AU (H V C N:Nat) (z:Int) (w:World) (Z:1≤H∧H≤100) (v1:1≤V∧V≤100) (Y:1≤C∧C≤1024) (y:ag (H:Int) (V:Int) (C:Int)=(N:Int)) (P:1≤N∧N≤1024) (O:InK .i8 z) :
  Calls prog 219 #[.agg (sN H V C),.int .i8 z] w fun e w'=>∃ q,e=.returned (.tuple #[.agg (tN H V C (some ⟨q,0,none⟩) N N),.int .i64 0])∧Own (ab .i8) w' (fun _=>False) w.heap.size 80 (.slice (some ⟨q,0,none⟩) N N) N (List.replicate N z)∧Below w w w':=by
 have M:=zH (fun w=>aV (H:Int) (C:Int) (V:Int) w (by rw [ai];omega) (by rw [ai];omega) (by rw [ai];omega));rw [show decide (0 < ag (H:Int) (V:Int) (C:Int))=true by rw [y];simp;omega] at M;have A:=zH (fun w=>bL (H:Int) (C:Int) (V:Int) w (by rw [ai];omega) (by rw [ai];omega) (by rw [ai];omega));rw [y] at A;have L:=zH (fun g w Q R=>xF z N g w P O Q R);have b:=zW w;clear y O;obtain ⟨U,G,I,r,l1,_,k,j,d⟩:=bk2 w (sN H V C) 23 (tN 0 0 0 none 0 0) 29;replace b:=zF d b;clear d;have l2:U.heap.size < G.heap.size:=by rw [← r];simp
 go_in
 go_wp2_with (refine lG k.o ?_)
 refine qM (M.o _) fun l i=>?_;have l3:=i.size;obtain ⟨b,k,j⟩:=uz3 i b k j;clear i;clear I r;go_wp2_with fail;refine wp_region_held_drew (S:=fun w'=>Blk w' w.heap.size 23 (sN H V C)∧Below w w w') kM ?_ (fun a=>?_)
 ·exact ⟨k.o.drew,b.u.drew⟩
 have n:=zH (show Below l l l.drew from (qB _ _).drew);refine tkH 0 rfl (yB 23 (.tmp 2) w (fun w E=>E.1) underlying23) a ?_;try simp only [pX]
 refine kH' 1 a ?_;refine tkH 3 rfl (yB 23 (.tmp 2) w (fun w E=>E.1) underlying23) a ?_;try simp only [pX]
 refine wpAnyH_ready (rs:=[2,4]) kM sM ?_;refine AllReadyH.cons rfl (fun K t=>?_) (AllReadyH.cons rfl (fun K t=>?_) AllReadyH.nil)
 ·go_simp;have i:Below l.drew.heap.size l.drew (l.drew.alloc (.cells #[.int .i8 z] 80)):=(qB _ _).alloc (lR _) _;have m:=zH (Blk.now l.drew l.heap.size 80 #[.int .i8 z] rfl);refine t.out _ _ ?_ (fun a=>?_)
  ·exact zR i a
  replace n:=zH (aa i n.o);clear t K;try simp only [pX]
  refine rH 4 rfl (fun K t=>?_);go_simp;refine qM (A.o _) fun p i=>?_;replace m:=zH (m.o.later i);refine t.out _ _ ?_ (fun a=>?_)
  ·exact zR i a
  replace n:=zH (aa i n.o);clear t K;try simp only [pX]
  refine rH 5 rfl (fun K t=>?_);go_simp;have X:l.heap.size≤(p).heap.size:=n.o.size;have F:=m.o.lt;refine (L.o l.heap.size (p) (m.o.cell 0) F).mono ?_;rintro e W ⟨q,rfl,s,i⟩;have B:=zH s;have T:=s.lt _ rfl;clear s;have c:=zH (j.o.later (aa i n.o));refine t.out _ _ ?_ (fun a=>?_)
  ·exact zR i a
  replace n:=zH (aa i n.o);clear t K;try simp only [pX]
  refine kH' 6 a ?_;refine rH 7 rfl (fun K t=>?_);rw [if_pos (by rfl)];refine oG (tN H V C (some ⟨q,0,none⟩) N N) c.o ?_;intro wc x f;have D:=B.o.flat f (.inr (by simp [Value.ownBlock];simp only [World.size_drew,World.size_alloc] at *;omega)) (fun _ h=>h);have v:=(show Far w _ from ⟨a.2⟩).away f oM;have J:w.heap.size≤q:=by simp only [World.size_drew,World.size_alloc] at *;omega
  refine t.out _ _ ⟨a.1.away f (.inl oM),v.out⟩ (fun a=>?_);clear t K;try simp only [pX]
  refine rH 8 rfl (fun K t=>?_);go_simp;refine t.out _ _ a (fun a=>?_);clear t K;try simp only [pX]
  refine wpAnyH_done kM ?_ _;go_wp2_with fail;refine rG x ?_;exact ⟨q,rfl,ji D J,v.out⟩
 ·go_simp;refine qM (A.o _) fun p i=>?_;refine t.out _ _ ?_ (fun a=>?_)
  ·exact zR i a
  replace n:=zH (aa i n.o);clear t K;try simp only [pX]
  refine rH 2 rfl (fun K t=>?_);go_simp;obtain ⟨i,m⟩:=zB p #[.int .i8 z] 80;refine t.out _ _ ?_ (fun a=>?_)
  ·exact zR i a
  replace n:=zH (aa i n.o);clear t K;try simp only [pX]
  refine rH 5 rfl (fun K t=>?_);go_simp;have X:l.heap.size≤(p.alloc (.cells #[.int .i8 z] 80)).heap.size:=n.o.size;have F:=m.o.lt;refine (L.o p.heap.size (p.alloc (.cells #[.int .i8 z] 80)) (m.o.cell 0) F).mono ?_;rintro e W ⟨q,rfl,s,i⟩;have B:=zH s;have T:=s.lt _ rfl;clear s;have c:=zH (j.o.later (aa i n.o));refine t.out _ _ ?_ (fun a=>?_)
  ·exact zR i a
  replace n:=zH (aa i n.o);clear t K;try simp only [pX]
  refine kH' 6 a ?_;refine rH 7 rfl (fun K t=>?_);rw [if_pos (by rfl)];refine oG (tN H V C (some ⟨q,0,none⟩) N N) c.o ?_;intro wc x f;have D:=B.o.flat f (.inr (by simp [Value.ownBlock];simp only [World.size_drew,World.size_alloc] at *;omega)) (fun _ h=>h);have v:=(show Far w _ from ⟨a.2⟩).away f oM;have J:w.heap.size≤q:=by simp only [World.size_drew,World.size_alloc] at *;omega
  refine t.out _ _ ⟨a.1.away f (.inl oM),v.out⟩ (fun a=>?_);clear t K;try simp only [pX]
  refine rH 8 rfl (fun K t=>?_);go_simp;refine t.out _ _ a (fun a=>?_);clear t K;try simp only [pX]
  refine wpAnyH_done kM ?_ _;go_wp2_with fail;refine rG x ?_;exact ⟨q,rfl,ji D J,v.out⟩
end Go.Proofs.YtbecbfpoahhpnaaGreat
