/- The greatest number of each window, and the mean (layer 19: pool.made, Max, Mean). -/
import Derived.Test.YtbecbfpoahhpnaaGreatJ29
import Derived.Test.YtbecbfpoahhpnaaGreatJ31
set_option linter.unusedVariables false
set_option linter.unusedSimpArgs false
set_option maxRecDepth 100000
set_option maxHeartbeats 16000000
namespace Go.Proofs.YtbecbfpoahhpnaaGreat
open Go.RowKit Go.ChangeShapes Go.WideShapes Fx Tryz
def sE (U:List Int → Int) (H V C:Nat) (l:List Int) (K S P Wo:Nat) (i:Nat):Int:=U (lF H V C l K S P (i % C) (i / C / Wo) (i / C % Wo) (K*K))
def cU (U:List Int → Int) (t:ae) (d:af):ae × Int :=
 if (aH t.h t.v t.c d.k d.s d.p t.c).2=0 then (⟨(aH t.h t.v t.c d.k d.s d.p t.c).1.1,(aH t.h t.v t.c d.k d.s d.p t.c).1.2.1,(aH t.h t.v t.c d.k d.s d.p t.c).1.2.2,
  (List.range (ag (aH t.h t.v t.c d.k d.s d.p t.c).1.1 (aH t.h t.v t.c d.k d.s d.p t.c).1.2.1 (aH t.h t.v t.c d.k d.s d.p t.c).1.2.2).toNat).map (sE U t.h.toNat t.v.toNat t.c.toNat t.data d.k.toNat d.s.toNat d.p.toNat (aH t.h t.v t.c d.k d.s d.p t.c).1.2.1.toNat)⟩,0) else (ak,(aH t.h t.v t.c d.k d.s d.p t.c).2)
theorem ua {U:List Int → Int} {t:ae} {d:af} (w:t.ok=true) (r:(aH t.h t.v t.c d.k d.s d.p t.c).2=0):∃ H V C K S P Ho Wo:Nat,TOk t t.data.length H V C∧WOk d H V C K S P Ho Wo C∧aH t.h t.v t.c d.k d.s d.p t.c=(((Ho:Int),(Wo:Int),(C:Int)),0)∧ag Ho Wo C=(Ho*Wo*C:Nat) ∧
  cU U t d=(⟨Ho,Wo,C,(List.range (Ho*Wo*C)).map (sE U H V C t.data K S P Wo)⟩,0):=by
 obtain ⟨H,V,C,T⟩:=fK w;obtain ⟨⟨⟨b,g,j⟩,e⟩,i⟩:∃ x,aH t.h t.v t.c d.k d.s d.p t.c=x:=⟨_,rfl⟩;have a:=i;rw [i] at r;obtain rfl:e=0:=r;rw [T.h,T.v,T.c] at a;obtain ⟨K,S,P,Ho,Wo,Co,o,l,m,f,y,n⟩:=jY a;obtain rfl:C=Co:=oM;subst l m f;refine ⟨H,V,C,K,S,P,Ho,Wo,T,o,i,n,?_⟩;unfold cU;rw [i,if_pos rfl];simp only [n,Int.toNat_natCast,T.h,T.v,T.c,o.k,o.s,o.p]
theorem Ck (f:Nat → Int) (k n:Nat):(stF f (fun j=>decide (j < k)) n).set k (f k)=stF f (fun j=>decide (j < k+1)) n:=by
 rw [vY];refine mR fun j _=>?_;by_cases h:j=k
 ·subst h;simp
 ·have:(j < k+1)=(j < k):=by apply propext;omega
  simp [h,this]
theorem Cl (f:Nat → Int) (k n:Nat) (e:f k=0):stF f (fun j=>decide (j < k)) n=stF f (fun j=>decide (j < k+1)) n:=by
 unfold stF;apply List.map_congr_left;intro j _;by_cases h:j=k
 ·subst h;simp [e]
 ·have:(j < k+1)=(j < k):=by apply propext;omega
  simp [this]
theorem rA {t:ae} {n H V C:Nat} (T:TOk t n H V C):decide (0 < ag (H:Int) (V:Int) (C:Int)∧ag (H:Int) (V:Int) (C:Int)=n)=true:=by
 have e:=gP T;have a:ag (H:Int) (V:Int) (C:Int)=(n:Int):=by
  rw [cO,if_pos]
  ·rw [T.n_eq,Int.natCast_mul,Int.natCast_mul]
  ·have:=T.h1;have:=T.v1;have:=T.c1;have o:=T.n_le;rw [T.n_eq] at o;exact ⟨by omega,by omega,by omega,by omega,by omega,by omega,by rw [← Int.natCast_mul,← Int.natCast_mul];omega⟩
 simp only [decide_eq_true_eq] at e ⊢;exact ⟨e,a⟩
theorem qV (R:Nat) (t:ae) (A:QA) (n l:Nat) (d:af) (W:QA) (nw M:Nat) (B:QA) (nb cb:Nat) (w:World)
  (T:xA w A n l t.data) (P:t.ok=true) (j:¬ (aH t.h t.v t.c d.k d.s d.p t.c).2=0) :
  Calls prog 149 #[.agg (tN t.h t.v t.c A n l),.agg (nD d W nw M B nb cb),.func (.func R) #[] #[]] w (aT .i8 ak (aH t.h t.v t.c d.k d.s d.p t.c).2 w):=by
 have q:=zH T;obtain ⟨H,V,C,a⟩:=fK P;have Q:t.data.length=n:=q.o.n_eq;rw [Q] at a;have G:=zH (fun w=>av (H:Int) (V:Int) (C:Int) A n l w (by have:=a.h1;rw [ai];omega) (by have:=a.v1;rw [ai];omega) (by have:=a.c1;rw [ai];omega) (lT q.o.cap_le q.o.max_le));rw [rA a] at G;have F:=zH (fun w=>fG (H:Int) (V:Int) (C:Int) d.k d.s d.p (C:Int) w (by have:=a.h1;rw [ai];omega) (by have:=a.v1;rw [ai];omega) (by have:=a.c1;rw [ai];omega) (by have:=a.c1;rw [ai];omega));rw [a.h,a.v,a.c] at j ⊢;obtain ⟨⟨⟨Y,Z,x3⟩,k⟩,N⟩:∃ x,aH H V C d.k d.s d.p C=x:=⟨_,rfl⟩;rw [N] at j F ⊢;have U:(k != 0)=true:=by rw [bne_iff_ne];exact j
 clear N j;have r:=zW w;obtain ⟨w1,w2,w3,z,D,E,l1,l2,l3,i,m,f,b⟩:=bk3 w (tN H V C A n l) 29 (nD d W nw M B nb cb) 84 (tN 0 0 0 none 0 0) 29;replace r:=zF b r;clear b;go_in
 go_wp2_with (first|(refine lG i.o ?_)|(go_at_call 58;refine qM (G.o _) fun w4 y=>?_;have l4:=y.size;obtain ⟨r,i,m,f⟩:=uz4 y r i m f;clear y z D E;have I:=i.o.cell 2;obtain ⟨J,K,L⟩:=uc3 m 3 4 5;simp only [gX] at I J K L)|(refine lP 23 (sN H V C) i.o ?_))
 refine (F.o _).mono ?_;clear I J K L;rintro e X ⟨rfl,y⟩;simp only [aY];have l5:=y.size;obtain ⟨r,i,m,f⟩:=uz4 y r i m f;clear y;obtain ⟨w6,an,BD,g⟩:=nB X (sN Y Z x3) 23;obtain ⟨r,i,m,f⟩:=uz4 g r i m f;clear g
 go_wp2_with (refine sG (tN 0 0 0 none 0 0) f.o ?_;intro w9 O S)
 refine rG O ?_;exact aT.none (r.o.away S oM).out
theorem qW (ff:Nat) (U:List Int → Int) (bo:U []=0) (bn:∀ l,InK .i8 (U l)) (bs:∀ (A:QA) (n I:Nat) (l:List Int) (w:World),xA w A n I l → n≤1024 → 1≤n → Calls prog ff #[.slice A n I] w fun e w'=>e=.returned (.int .i8 (U l))∧Below w w w') (bW:∀ ax w,(callFunc ff ax).run prog w=.ok (.enter ff ax) w) (t:ae) (A:QA) (n I:Nat) (d:af) (W:QA) (nw cw:Nat) (B:QA) (nb cb:Nat) (w:World)
  (ha:xA w A n I t.data) (c1:t.ok=true) (c2:(aH t.h t.v t.c d.k d.s d.p t.c).2=0) :
  Calls prog 149 #[.agg (tN t.h t.v t.c A n I),.agg (nD d W nw cw B nb cb),.func (.func ff) #[] #[]] w (aT .i8 (cU U t d).1 (cU U t d).2 w):=by
 have HA:=zH ha;obtain ⟨H,V,C,D⟩:=fK c1;have en:t.data.length=n:=HA.o.n_eq;rw [en] at D;have RI:=zH (fun w=>av (H:Int) (V:Int) (C:Int) A n I w (by have:=D.h1;rw [ai];omega) (by have:=D.v1;rw [ai];omega) (by have:=D.c1;rw [ai];omega) (lT HA.o.cap_le HA.o.max_le));rw [rA D] at RI;have CI:=zH (fun w=>fG (H:Int) (V:Int) (C:Int) d.k d.s d.p (C:Int) w (by have:=D.h1;rw [ai];omega) (by have:=D.v1;rw [ai];omega) (by have:=D.c1;rw [ai];omega) (by have:=D.c1;rw [ai];omega));obtain ⟨H',V',C',K,S,P,Ho,Wo,T,Q,hx,el,ev⟩:=ua (U:=U) c1 c2;rw [en] at T;obtain rfl:H=H':=by have:=T.h;have:=D.h;omega
 obtain rfl:V=V':=by have:=T.v;have:=D.v;omega
 obtain rfl:C=C':=by have:=T.c;have:=D.c;omega
 rw [ev];rw [T.h,T.v,T.c] at hx ⊢;rw [hx] at CI;obtain ⟨T,Q⟩:=zh2 T Q;have EL:=zH (fun w=>bL (Ho:Int) (C:Int) (Wo:Int) w (by have:=Q.o.ho1;rw [ai];omega) (by have:=Q.o.wo1;rw [ai];omega) (by have:=Q.o.co1;rw [ai];omega));rw [el] at EL;have hN:=Q.o.no;obtain ⟨N,be⟩:∃ N,Ho*Wo*C=N:=⟨_,rfl⟩;rw [be] at EL hN ⊢;have NE:=zH be;obtain ⟨PF,bt⟩:∃ f,sE U H V C t.data K S P Wo=f:=⟨_,rfl⟩;rw [bt];obtain ⟨bw,HU,bc⟩:=zh3 bt (And.intro bo bn) bs;have WN:=zH (fun (y x o:Nat) (hy:y≤1000) (hx:x≤1000) (ho:o < C) (wq:World) (ha:xA wq A n I t.data) =>
  xY H V C A n I t.data d W nw cw B nb cb K S P y x o wq ha T.o.n_eq T.o.n_le T.o.h1 T.o.v1 T.o.c1 (gP T.o) Q.o.k Q.o.s Q.o.p Q.o.k1 Q.o.s1 Q.o.p1.1 hy hx ho)
 have ci:(Ho:Int)≤16:=by have:=Q.o.ho1;omega
 have cn:1≤(Wo:Int)∧(Wo:Int)≤16:=by have:=Q.o.wo1;omega
 have ch:1≤(C:Int)∧(C:Int)≤1024:=by have:=Q.o.co1;omega
 clear c1 c2 hx el ev be bt bo bn bs en D ha;have G:=zW w;obtain ⟨w1,w2,w3,bH,bM,bN,l1,l2,l3,F,J,M,br⟩:=bk3 w (tN H V C A n I) 29 (nD d W nw cw B nb cb) 84 (tN 0 0 0 none 0 0) 29;replace G:=zF br G;clear br;go_in
 go_wp2_with (first|(refine lG F.o ?_)|(go_at_call 58;refine qM (RI.o _) fun w4 z=>?_;have l4:=z.size;obtain ⟨G,F,J,M⟩:=uz4 z G F J M;clear z bH bM bN;have a2:=F.o.cell 2;obtain ⟨b3,b4,b5⟩:=uc3 J 3 4 5;simp only [gX] at a2 b3 b4 b5)|(refine lP 23 (sN H V C) F.o ?_))
 refine (CI.o _).mono ?_;clear a2 b3 b4 b5;rintro e w5 ⟨rfl,z⟩;simp only [aY];have l5:=z.size;obtain ⟨G,F,J,M⟩:=uz4 z G F J M;clear z;obtain ⟨E,bl,X,bd⟩:=nB w5 (sN (Ho:Int) (Wo:Int) (C:Int)) 23;obtain ⟨G,F,J,M⟩:=uz4 bd G F J M;clear bd;have ba:=zL bl;go_wp2_with fail;clear bl;go_cut [10] (fun b wx=>∃ g q,b=.pointer (some ⟨g,0,none⟩)∧Blk wx g 29 (tN (Ho:Int) (Wo:Int) (C:Int) (some ⟨q,0,none⟩) (N) (N))∧Own (ab .i8) wx (fun _=>False) E.heap.size 80 (.slice (some ⟨q,0,none⟩) (N) (N)) (N) (List.replicate (N) 0)∧q ≠ g∧E.heap.size≤g∧Below E E wx)
 case first =>
  refine wp_region_held_drew (S:=fun w'=>Blk w' (w5.heap.size) 23 (sN (Ho:Int) (Wo:Int) (C:Int))∧Below E E w') kM ?_ (fun a=>?_)
  ·exact ⟨X.o.drew,(qB _ _).drew⟩
  refine tkH 0 rfl (yP (sN (Ho:Int) (Wo:Int) (C:Int)) (fun w hs=>hs.1)) a ?_;try simp only [pX]
  refine tkH 1 rfl (yP (sN (Ho:Int) (Wo:Int) (C:Int)) (fun w hs=>hs.1)) a ?_;try simp only [pX]
  refine wpAnyH_ready (rs:=[2,5]) kM sM ?_;refine AllReadyH.cons rfl (fun K i=>?_) (AllReadyH.cons rfl (fun K i=>?_) AllReadyH.nil)
  ·go_simp;refine qM (EL.o _) fun O z=>?_;refine xK i (zR z a) fun a=>?_;clear i K;refine wpAnyH_ready (rs:=[3,5]) kM sM ?_;refine AllReadyH.cons rfl (fun K i=>?_) (AllReadyH.cons rfl (fun K i=>?_) AllReadyH.nil)
   ·rw [if_pos (by rfl)];have zq:E.heap.size≤O.heap.size:=a.2.size;refine dy (k:=.i8) (base:=E.heap.size) (n:=N) (.tmp 38) (.tmp 38) rfl jc .i64 .i64 rfl rfl oM mL zq dM ?_;intro wm r gm;have Y:=zH (show Own (ab .i8) wm (fun _=>False) E.heap.size 80 (.slice (some ⟨O.heap.size,0,none⟩) (N) (N)) (N) (List.replicate (N) 0) by first|exact r|simpa [World.size_alloc] using r);refine i.out _ _ ⟨Blk.grown0 a.1 gm,a.2.grown gm zq sM⟩ (fun a=>?_);clear i K r gm;try simp only [pX]
    refine kH' 4 a ?_;refine rH 5 rfl (fun K i=>?_);go_simp;have zg:E.heap.size≤wm.heap.size:=a.2.size;obtain ⟨z,BZ⟩:=zB wm (tN 0 0 0 none 0 0) 29;have bB:O.heap.size < wm.heap.size:=(Y.o.lt _ rfl).2;replace Y:=zH (Y.o.below z (lR _) (fun _ h=>h.elim));refine xK i (zR z a) fun a=>?_;clear i K;refine rH 6 rfl (fun K i=>?_);rw [if_pos (by rfl)];refine oG (tN (Ho:Int) (Wo:Int) (C:Int) (some ⟨O.heap.size,0,none⟩) (N) (N)) BZ.o ?_;intro wc BX gc;have R:O.heap.size ≠ wm.heap.size:=by have:=bB;omega
    replace Y:=zH (Y.o.flat gc (.inr (by first|(simp [Value.ownBlock];done)|(simp [Value.ownBlock];exact R))) (fun _ h=>h));refine i.out _ _ ⟨a.1.away gc (by have:=ba;have:=zg;simp only [World.size_drew] at *;omega),a.2.grown gc a.2.size (fun k h=>by have:=sI h;have:=zg;simp only [World.size_drew] at *;omega)⟩ (fun a=>?_);clear i K;try simp only [pX]
    refine wpAnyH_done kM ?_ _;have FZ:=a.2;go_wp2_with fail;go_meet
    case rel=>exact ⟨_,_,rfl,BX,Y.o,R,zg,FZ⟩
   ·go_simp;have zg:E.heap.size≤O.heap.size:=a.2.size;obtain ⟨z,BZ⟩:=zB O (tN 0 0 0 none 0 0) 29;refine xK i (zR z a) fun a=>?_;clear i K;refine rH 3 rfl (fun K i=>?_);rw [if_pos (by rfl)];have zq:E.heap.size≤(O.alloc (.cells (tN 0 0 0 none 0 0) 29)).heap.size:=a.2.size;refine dy (k:=.i8) (base:=E.heap.size) (n:=N) (.tmp 38) (.tmp 38) rfl jc .i64 .i64 rfl rfl oM mL zq dM ?_;intro wm r gm;have Y:=zH (show Own (ab .i8) wm (fun _=>False) E.heap.size 80 (.slice (some ⟨(O.heap.size+1),0,none⟩) (N) (N)) (N) (List.replicate (N) 0) by first|exact r|simpa [World.size_alloc] using r);replace BZ:=zH (BZ.o.grown0 gm);refine i.out _ _ ⟨Blk.grown0 a.1 gm,a.2.grown gm zq sM⟩ (fun a=>?_);clear i K r gm;try simp only [pX]
    refine kH' 4 a ?_;refine rH 6 rfl (fun K i=>?_);rw [if_pos (by rfl)];refine oG #[.int .i64 (Ho:Int),.int .i64 (Wo:Int),.int .i64 (C:Int),.slice (some ⟨(O.heap.size+1),0,none⟩) (N) (N)] BZ.o ?_;intro wc BX gc;have R:(O.heap.size+1) ≠ O.heap.size:=oM;replace Y:=zH (Y.o.flat gc (.inr (by first|(simp [Value.ownBlock];done)|(simp [Value.ownBlock];exact R))) (fun _ h=>h));refine i.out _ _ ⟨a.1.away gc (by have:=ba;have:=zg;simp only [World.size_drew] at *;omega),a.2.grown gc a.2.size (fun k h=>by have:=sI h;have:=zg;simp only [World.size_drew] at *;omega)⟩ (fun a=>?_);clear i K;try simp only [pX]
    refine wpAnyH_done kM ?_ _;have FZ:=a.2;go_wp2_with fail;go_meet
    case rel=>exact ⟨_,_,rfl,BX,Y.o,R,zg,FZ⟩
  ·go_simp;have zg:E.heap.size≤E.heap.size:=a.2.size;have z:Below E.drew.heap.size E.drew (E.drew.alloc (.cells (tN 0 0 0 none 0 0) 29)):=(qB _ _).alloc (lR _) _;have BZ:=zH (Blk.now E.drew E.heap.size 29 (tN 0 0 0 none 0 0) rfl);refine xK i (zR z a) fun a=>?_;clear i K;refine rH 2 rfl (fun K i=>?_);go_simp;refine qM (EL.o _) fun O z=>?_;replace BZ:=zH (BZ.o.later z);have bO:=BZ.o.lt;refine xK i (zR z a) fun a=>?_;clear i K;refine rH 3 rfl (fun K i=>?_);rw [if_pos (by rfl)];have zq:E.heap.size≤O.heap.size:=a.2.size;refine dy (k:=.i8) (base:=E.heap.size) (n:=N) (.tmp 38) (.tmp 38) rfl jc .i64 .i64 rfl rfl oM mL zq dM ?_;intro wm r gm;have Y:=zH (show Own (ab .i8) wm (fun _=>False) E.heap.size 80 (.slice (some ⟨O.heap.size,0,none⟩) (N) (N)) (N) (List.replicate (N) 0) by first|exact r|simpa [World.size_alloc] using r);replace BZ:=zH (BZ.o.grown0 gm);refine i.out _ _ ⟨Blk.grown0 a.1 gm,a.2.grown gm zq sM⟩ (fun a=>?_);clear i K r gm;try simp only [pX]
   refine kH' 4 a ?_;refine rH 6 rfl (fun K i=>?_);rw [if_pos (by rfl)];refine oG (tN (Ho:Int) (Wo:Int) (C:Int) (some ⟨O.heap.size,0,none⟩) (N) (N)) BZ.o ?_;intro wc BX gc;have R:O.heap.size ≠ E.heap.size:=by have:=bO;omega
   replace Y:=zH (Y.o.flat gc (.inr (by first|(simp [Value.ownBlock];done)|(simp [Value.ownBlock];exact R))) (fun _ h=>h));refine i.out _ _ ⟨a.1.away gc (by have:=ba;have:=zg;simp only [World.size_drew] at *;omega),a.2.grown gc a.2.size (fun k h=>by have:=sI h;have:=zg;simp only [World.size_drew] at *;omega)⟩ (fun a=>?_);clear i K;try simp only [pX]
   refine wpAnyH_done kM ?_ _;have FZ:=a.2;go_wp2_with fail;go_meet
   case rel=>exact ⟨_,_,rfl,BX,Y.o,R,zg,FZ⟩
 case rest =>
  obtain ⟨g,q,rfl,bg,r,ce,zg,b4⟩:=hcut;obtain ⟨w7,rfl⟩:∃ x,x=wc:=⟨_,rfl⟩;have Z:=zH bg;have lq:E.heap.size≤q∧q < w7.heap.size:=r.lt _ rfl;have ct:=bg.lt;rw [← uy PF (fun j=>decide (j < 0)) N (fun j _=>by simp)] at r;have ON:=zH r;clear bg r CI RI;obtain ⟨G,F,J,M,X⟩:=uz5 b4 G F J M X;clear b4;have g3:=Z.o.cell 3;go_wp2_with fail;clear g3;go_loopw [44] (fun ii wr=>∃ k:Nat,k≤N∧ii=.int .i64 k∧Far w wr∧Blk wr w.heap.size 29 (tN H V C A n I)∧Blk wr w1.heap.size 84 (nD d W nw cw B nb cb)∧Blk wr w2.heap.size 29 (tN 0 0 0 none 0 0)∧Blk wr w5.heap.size 23 (sN (Ho:Int) (Wo:Int) (C:Int))∧Blk wr g 29 (tN (Ho:Int) (Wo:Int) (C:Int) (some ⟨q,0,none⟩) N N)∧Own (ab .i8) wr (fun _=>False) E.heap.size 80 (.slice (some ⟨q,0,none⟩) N N) N (stF PF (fun j=>decide (j < k)) N)) (fun ii _=>N - (intOf ii).toNat)
  case atStart=>exact ⟨0,zl _,rfl,G.o,F.o,J.o,M.o,X.o,Z.o,ON.o⟩
  case round =>
   obtain ⟨k,hk,rfl,f0,f1,f2,f3,f4,f5,f6⟩:=hrel;clear G F J M X Z ON;obtain ⟨G,F,J,M,X,Z,ON⟩:=zh7 f0 f1 f2 f3 f4 f5 f6;clear f0 f1 f2 f3 f4 f5 f6;by_cases bh:k < N
   ·have p1:(k:Int) < (N:Int):=oM;go_wp2_with fail;obtain ⟨a1,ah⟩:∃ m,k / C=m:=⟨_,rfl⟩;obtain ⟨yb,ay⟩:∃ m,a1 / Wo=m:=⟨_,rfl⟩;obtain ⟨xb,ac⟩:∃ m,a1 % Wo=m:=⟨_,rfl⟩;obtain ⟨an,al⟩:∃ m,k % C=m:=⟨_,rfl⟩;have k1:a1≤1000000:=by rw [← ah];exact lT (Nat.div_le_self _ _) oM
    have bz:yb≤1000:=by
     rw [← ay,← ah];have:k / C / Wo < Ho:=by
      rw [Nat.div_lt_iff_lt_mul oM,Nat.div_lt_iff_lt_mul oM,NE.o];exact bh
     omega
    have bx:xb≤1000:=by rw [← ac];have:=Nat.mod_lt a1 (show Wo > 0 by omega);omega
    have bb:an < C:=by rw [← al];exact Nat.mod_lt _ oM
    have bR:¬ C=0:=oM;have bT:¬ Wo=0:=oM;have d1:(k:Int).tdiv (C:Int)=(a1:Int):=by rw [← ah,Int.tdiv_eq_ediv_of_nonneg oM];simp
    have d2:(a1:Int).tdiv (Wo:Int)=(yb:Int):=by rw [← ay,Int.tdiv_eq_ediv_of_nonneg oM];simp
    have d3:(a1:Int).tmod (Wo:Int)=(xb:Int):=by rw [← ac,Int.tmod_eq_emod_of_nonneg oM];simp
    have d4:(k:Int).tmod (C:Int)=(an:Int):=by rw [← al,Int.tmod_eq_emod_of_nonneg oM];simp
    have e1:IntKind.i64.wrap (a1:Int)=(a1:Int):=wJ;have e2:IntKind.i64.wrap (yb:Int)=(yb:Int):=wJ;have e3:IntKind.i64.wrap (xb:Int)=(xb:Int):=wJ;have e4:IntKind.i64.wrap (an:Int)=(an:Int):=wJ;obtain ⟨WL,ad⟩:∃ L,lF H V C t.data K S P an yb xb (K*K)=L:=⟨_,rfl⟩;have CW:=zH (fun wq ha=>WN.o yb xb an bz bx bb wq ha);rw [ad] at CW;obtain ⟨FK,bp⟩:=zh2 (show PF k=U WL by rw [← bw.o];unfold sE;rw [al,ah,ay,ac,ad]) (show WL.length≤1024 by rw [← ad];exact lT (oE _ _ _ _ _ _ _ _ _ _ _) (lT (Nat.mul_le_mul Q.o.k1.2 Q.o.k1.2) dM));clear ad ah ay ac al;have fd:Below wr wr wr.drew:=(qB _ _).drew;have x1:=(X.o.fut fd).cell 1;have x2:=(X.o.fut fd).cell 2;simp only [gX] at x1 x2;refine aP (fun w'=>w'.cell? ⟨w5.heap.size,1,none⟩=some (.int .i64 Wo)∧w'.cell? ⟨w5.heap.size,2,none⟩=some (.int .i64 C)∧Below wr wr w') 22 kM ?_ (fun a=>?_)
    ·exact ⟨x1,x2,fd⟩
    refine tkT 0 rfl (yB 29 (.tmp 3) w (fun w hs=>F.o.later hs.2.2) underlying29) a ?_;try simp only [pX]
    refine tkT 1 rfl (yB 84 (.tmp 4) w1 (fun w hs=>J.o.later hs.2.2) underlying84) a ?_;try simp only [pX]
    refine kT' 2 a ?_;refine kT' 3 a ?_;refine kT' 4 a ?_;refine kT' 5 a ?_;refine kT' 6 a ?_;refine kT' 7 a ?_;refine kT' 8 a ?_;refine kT' 9 a ?_;refine kT' 10 a ?_;refine kT' 11 a ?_;refine kT' 12 a ?_;refine kT' 13 a ?_;refine kT' 14 a ?_;refine kT' 15 a ?_;refine kT' 16 a ?_;refine kT' 17 a ?_;refine kT' 18 a ?_;refine kT' 19 a ?_;refine rT 20 (fun K i=>?_);go_simp;refine (CW.o _ ((Old.now HA.o).fut (G.o.fut a.2.2).out).all).mono ?_;rintro e w8 ⟨Fv,rfl,z,CC⟩;refine xK i (zR z a) fun a=>?_;clear i K;refine rT 21 (fun K i=>?_);go_simp;refine CC.mono ?_;rintro e w9 ⟨RA,rn,rc,rfl,rs,z⟩;have RS:=zH rs.old;have bA:=rs.n_eq;have co:rn≤9223372036854775807:=lT rs.cap_le rs.max_le;clear CC rs;refine xK i (zR z a) fun a=>?_;clear i K;refine wpAnyT_tail _ _ rfl rfl kM ?_;have kd:=a.2.2;replace ON:=zH (ON.o.below kd (lR _) (fun _ h=>h.elim));obtain ⟨G,F,J,M,X,Z⟩:=uz6 kd G F J M X Z;clear kd;clear x1 x2 a fd z d1 d2 d3 d4 e1 e2 e3 e4;by_cases r0:0 < rn
    ·have bD:(0:Int) < (rn:Int):=oM;have ca:=Z.o.lt;have FU:=zH (bc.o RA rn rc WL);go_wp2_with fail;have fd:Below w9 w9 w9.drew:=(qB _ _).drew;have cd:=(Z.o.fut fd).cell 3;simp only [gX] at cd;refine aP (fun w'=>w'.cell? ⟨g,3,none⟩=some (.slice (some ⟨q,0,none⟩) N N)∧Below w9 w9 w') 6 kM ?_ (fun a=>?_)
     ·exact ⟨cd,fd⟩
     refine kT' 0 a ?_;refine kT' 1 a ?_;refine kT' 2 a ?_;refine kT' 3 a ?_;refine kT' 4 a ?_;refine rT 5 (fun K i=>?_);go_simp;refine qM (FU.o _ (RS.o.fut a.2) (by have:=bp.o;omega) oM) fun O z=>?_;refine xK i (zR z a) fun a=>?_;clear i K;refine wpAnyT_tail _ _ rfl rfl kM ?_;have z:=a.2;have O4:=zH (ON.o.below z (lR _) (fun _ h=>h.elim));obtain ⟨G,F,J,M,X,Z⟩:=uz6 z G F J M X Z;clear z;obtain ⟨x1,u1,-,-,c5,c6,c7,-⟩:=O4.o.cell rfl k bh;go_wp2_with fail;obtain ⟨o3,g3⟩:=O4.o.set1 rfl k (.int .i8 (U WL)) (U WL) ⟨rfl,HU.o.2 WL⟩ (fun _ h=>h.elim);rw [← FK.o,Ck] at o3;rw [← FK.o];exact ⟨⟨k+1,by omega,by go_num,G.o.away (by rw [FK.o];exact g3) oM,F.o.away (by rw [FK.o];exact g3) (.inl oM),J.o.away (by rw [FK.o];exact g3) (.inl oM),M.o.away (by rw [FK.o];exact g3) (.inl oM),X.o.away (by rw [FK.o];exact g3) (.inl oM),Z.o.away (by rw [FK.o];exact g3) oM,o3⟩,by simp [intOf];omega⟩
    ·obtain rfl:rn=0:=oM;obtain rfl:WL=[]:=List.length_eq_zero_iff.1 bA;have bD:¬ (0:Int) < ((0:Nat):Int):=oM;go_wp2_with fail;have o3:=ON.o;rw [Cl PF k N (by rw [FK.o];exact HU.o.1)] at o3;exact ⟨⟨k+1,by omega,by go_num,G.o,F.o,J.o,M.o,X.o,Z.o,o3⟩,by simp [intOf];omega⟩
   ·obtain rfl:k=N:=oM
    go_wp2_with (first|(refine lB 29 (.tmp 10) g Z.o underlying29 ?_)|(refine sG (tN (Ho:Int) (Wo:Int) (C:Int) (some ⟨q,0,none⟩) k k) M.o ?_;intro w9 B9 g9))
    have e1:=ON.o;rw [vX _ _ _ (fun j hj=>by simpa using hj)] at e1;have e2:=e1.flat g9 (.inr (by simp [Value.ownBlock];omega)) (fun _ h=>h);refine rG B9 ?_;have FE:=G.o.away g9 oM;obtain ⟨A2,c2,hv,s⟩:=e2.sl (S':=bin w.heap.size _) dM (fun b h1 h2=>⟨by omega,h2⟩) (fun b h=>h.elim);injection hv with hv1 hv2 hv3
    subst hv1 hv3;exact ⟨_,_,_,rfl,s,FE.out⟩
def DV (l:List Int):Int:=if l.length=0 then 0 else hiN l l.length
theorem yJ {l:List Int} (h:∀ i,InK .i8 (l.getD i 0)):∀ n,InK .i8 (hiN l n)
 | 0=>h 0
 | n+1=>by
  unfold hiN;split
  ·exact h n
  ·exact yJ h n
theorem Eo {x:Int} (h:InK .i8 x):w8 x=x:=by rw [xW];rw [bj] at h;omega
def ja (l:List Int):Int:=w8 (DV l)
theorem C7 {l:List Int} (h:∀ i,InK .i8 (l.getD i 0)):ja l=if l.length=0 then 0 else hiN l l.length:=by
 unfold ja DV;split
 ·decide
 ·exact Eo (yJ h _)
theorem yS:fO []=0:=by decide
theorem Bn:ja []=0:=by decide
theorem vy (t:ae) (A:QA) (n a:Nat) (d:af) (W:QA) (nw m:Nat) (B:QA) (nb cb:Nat) (w:World)
  (f:xA w A n a t.data) (D:t.ok=true) :
  Calls prog 115 #[.agg (tN t.h t.v t.c A n a),.agg (nD d W nw m B nb cb)] w (aT .i8 (cU ja t d).1 (cU ja t d).2 w):=by
 have R:=zH f;have z:=zH (fun w f=>show Calls prog 149 #[.agg (tN t.h t.v t.c A n a),.agg (nD d W nw m B nb cb),.func (.func 150) #[] #[]] w (aT .i8 (cU ja t d).1 (cU ja t d).2 w) from by
  by_cases i:(aH t.h t.v t.c d.k d.s d.p t.c).2=0
  ·exact qW 150 ja Bn (fun l=>sR _) (fun A n a l w F T S=>by rw [C7 F.allK,F.n_eq,if_neg oM];exact (tG A n a l w F T S).mono fun e w' h=>⟨h.1,by rw [← h.2];exact qB _ _⟩) (enters_of func150 kM rfl) t A n a d W nw m B nb cb w f D i
  ·have e:cU ja t d=(ak,(aH t.h t.v t.c d.k d.s d.p t.c).2):=by unfold cU;rw [if_neg i]
   rw [e];exact qV 150 t A n a d W nw m B nb cb w f D i)
 obtain ⟨Q,L⟩:∃ q,cU ja t d=q:=⟨_,rfl⟩;rw [L] at z ⊢;have r:=zW w;clear f D L;obtain ⟨w1,V,X,G,H,I,l1,l2,_,O,P,K,g⟩:=bk3 w (tN t.h t.v t.c A n a) 29 (nD d W nw m B nb cb) 84 (tN 0 0 0 none 0 0) 29;replace r:=zF g r;clear g;go_in
 go_wp2_with (first|(refine lG O.o ?_)|(refine lG P.o ?_))
 refine (z.o _ (zO R r)).mono ?_;rintro e w4 ⟨J,M,i,rfl,rs,j⟩;obtain ⟨x,F4,Z⟩:=zh3 (K.o.fut j) (r.o.fut j) (New.of rs r.o);have U:=j.size;have lr:=K.o.lt;obtain ⟨y,C⟩:=zh2 (show ∀ b,bin X w4 b → b ≠ V.heap.size from fun b h e=>by have:=h.1;omega) rs;clear j rs G H I z
 go_wp2_with (refine sG (tN Q.1.h Q.1.v Q.1.c J M i) x.o ?_;intro Y N E)
 refine rG N ?_;have s9:=E.size;refine ⟨J,M,i,rfl,?_,(F4.o.away E oM).out⟩;exact (C.o.keep (w':=Y) fun b h=>E.block b (by have:=h.2;omega) (fun e=>y.out b h (by have:=sI e;omega))).more fun b h=>⟨by have:=h.1;omega,by have:=h.2;omega⟩
theorem rV (t:ae) (A:QA) (n a:Nat) (d:af) (W:QA) (nw m:Nat) (B:QA) (nb cb:Nat) (w:World)
  (f:xA w A n a t.data) (D:t.ok=true) :
  Calls prog 116 #[.agg (tN t.h t.v t.c A n a),.agg (nD d W nw m B nb cb)] w (aT .i8 (cU fO t d).1 (cU fO t d).2 w):=by
 have P:=zH f;have z:=zH (fun w f=>show Calls prog 149 #[.agg (tN t.h t.v t.c A n a),.agg (nD d W nw m B nb cb),.func (.func 151) #[] #[]] w (aT .i8 (cU fO t d).1 (cU fO t d).2 w) from by
  by_cases i:(aH t.h t.v t.c d.k d.s d.p t.c).2=0
  ·exact qW 151 fO yS Bo (fun A n a l w R S Z=>tY A n a l w R S) (enters_of func151 kM rfl) t A n a d W nw m B nb cb w f D i
  ·have e:cU fO t d=(ak,(aH t.h t.v t.c d.k d.s d.p t.c).2):=by unfold cU;rw [if_neg i]
   rw [e];exact qV 151 t A n a d W nw m B nb cb w f D i)
 obtain ⟨Q,K⟩:∃ q,cU fO t d=q:=⟨_,rfl⟩;rw [K] at z ⊢;have r:=zW w;clear f D K;obtain ⟨w1,U,V,F,G,H,l1,l2,_,N,O,J,g⟩:=bk3 w (tN t.h t.v t.c A n a) 29 (nD d W nw m B nb cb) 84 (tN 0 0 0 none 0 0) 29;replace r:=zF g r;clear g;go_in
 go_wp2_with (first|(refine lG N.o ?_)|(refine lG O.o ?_))
 refine (z.o _ (zO P r)).mono ?_;rintro e w4 ⟨I,L,i,rfl,rs,j⟩;obtain ⟨x,F4,Y⟩:=zh3 (J.o.fut j) (r.o.fut j) (New.of rs r.o);have T:=j.size;have lr:=J.o.lt;obtain ⟨y,C⟩:=zh2 (show ∀ b,bin V w4 b → b ≠ U.heap.size from fun b h e=>by have:=h.1;omega) rs;clear j rs F G H z
 go_wp2_with (refine sG (tN Q.1.h Q.1.v Q.1.c I L i) x.o ?_;intro X M E)
 refine rG M ?_;have s9:=E.size;refine ⟨I,L,i,rfl,?_,(F4.o.away E oM).out⟩;exact (C.o.keep (w':=X) fun b h=>E.block b (by have:=h.2;omega) (fun e=>y.out b h (by have:=sI e;omega))).more fun b h=>⟨by have:=h.1;omega,by have:=h.2;omega⟩
end Go.Proofs.YtbecbfpoahhpnaaGreat
