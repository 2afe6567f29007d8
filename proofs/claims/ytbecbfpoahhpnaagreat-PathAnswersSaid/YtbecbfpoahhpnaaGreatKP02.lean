/- All exits that an input comes to (layer 38: path.exits, path.All). -/
import Derived.Test.YtbecbfpoahhpnaaGreatKP01
set_option linter.unusedVariables false
set_option linter.unusedSimpArgs false
set_option maxRecDepth 100000
set_option maxHeartbeats 16000000
namespace Go.Proofs.YtbecbfpoahhpnaaGreat
open Go.RowKit Go.ChangeShapes Go.WideShapes Tryz
abbrev E4 (x:Ex):Array Value:=#[.int .i64 x.d.model,.int .i64 x.d.block,.int .i64 x.d.steps,.int .i64 x.d.spent,.int .i64 x.d.v.cls,.int .i64 x.d.v.margin,.slice x.L x.l x.k,.bool x.d.v.enough]
theorem Fq (g:Nat) (w:World) (k j s:Int) (t x:ae) (X:QA) (h i:Nat) (Y:QA) (r n:Nat) :
  Calls prog 43 #[.pointer (some ⟨g,0,none⟩),.agg (pK k j s t X h i x Y r n)] w fun e w'=>∃ a bP,e=.returned (.func (.func 68) #[] #[.pointer (some ⟨a,0,none⟩),.pointer (some ⟨bP,0,none⟩)])∧Blk w' a 32 #[.pointer (some ⟨g,0,none⟩)]∧Blk w' bP 37 (pK k j s t X h i x Y r n)∧w.heap.size≤a∧a < bP∧Below w w w':=by
 have H:=zW w;obtain ⟨f,d,l,k1⟩:=nB w #[.pointer (some ⟨g,0,none⟩)] 32;replace H:=zN k1 H l;have m:=zL d;clear l k1;obtain ⟨p,y,c,k2⟩:=nB f (pK k j s t X h i x Y r n) 37;replace H:=zN k2 H c;clear c k2;go_in;go_wp2;go_ret;exact ⟨_,_,rfl,H.o.1.2,H.o.2,lR _,m,H.o.1.1.out⟩
def E6 (l:List Exit) (code:Int) (w:World) (e:Ending) (w':World):Prop:=∃ A n cap,e=.returned (.tuple #[.slice A n cap,.int .i64 code])∧Sl EF w' (blo w') A n cap l∧Below w w w'
theorem Fr:(prog.info? 67).map (fun i=>(i.zero,i.size,i.bytes))=some (some (.agg #[.int .i64 0,.int .i64 0,.int .i64 0,.int .i64 0,.int .i64 0,.int .i64 0,.slice none 0 0,.bool false]),8,80):=by kernel_rfl
theorem FF:EI prog 61 67 (.agg #[.int .i64 0,.int .i64 0,.int .i64 0,.int .i64 0,.int .i64 0,.int .i64 0,.slice none 0 0,.bool false]) 8 80:=⟨underlying61,Fr,rfl,by decide⟩
theorem FC (u:Bun) (r:QA) (k l:Nat) (B:QA) (nb cb:Nat) (C:QA) (j f:Nat) (t:ae) (D:QA) (m c g:Nat) (w:World)
  (a:Blk w g 99 (nK u r k l B nb cb C j f)) (p:aw t) (y:xA w D m c t.data) (i:m≤300) (b:fy t (u.h,u.v,u.c)=false) :
  Calls prog 18 #[.pointer (some ⟨g,0,none⟩),.agg (tN t.h t.v t.c D m c)] w (E6 [] 5 w):=by
 have s:=zH (fun w a F=>Ab t g u.h u.v u.c (.int .i64 u.cl) (.slice r k l) (.slice B nb cb) (.slice C j f) D m c w a p F i);simp only [b] at s;unfold Cx kF at s;obtain ⟨n,z⟩:=zh2 a (Old.now y);clear a y p b;have H:=zW w;obtain ⟨M,K,d,k1⟩:=nB w (tN t.h t.v t.c D m c) 29;replace H:=zN k1 H d;replace n:=zF k1 n;clear d k1;go_in
 go_wp2_with (refine lG H.o.2 ?_)
 refine (s.o _ n.o (z.o.fut H.o.1.out).all).mono ?_;rintro e N ⟨q,J,A,x,I,E,rfl,-,-,a⟩;replace H:=zF a H;clear a;dsimp only [qd,ak]
 go_wp2_with (refine sF 37 (.tmp 6) (.tmp 14) #[.int .i64 0,.int .i64 0,.int .i64 0,.int .i64 0,.int .i64 0,.int .i64 0,.slice q J A,.int .i64 0,.int .i64 0,.int .i64 0,.slice x I E] ?_;intro w8 L G;replace H:=zF G H)
 go_ret2
 exact ⟨none,0,0,rfl,Sl.nil _ _ _,H.o.1.out⟩
theorem Fk {w:World} {b o:Nat} {v:Value} (h:w.cell? ⟨b,o,none⟩=some v) {e:Obj} (t:w.heap[b]?=some e):e.isCells=true:=by
 unfold World.cell? at h;rw [t] at h;cases e with
 | cells=>rfl
 | _=>cases h
theorem Sl.cellsD {k:IntKind} {w:World} {S:Nat → Prop} {A:QA} {n e:Nat} {l:List Int} (h:Sl (ab k) w S A n e l):Sl (ab k) w (fun b=>S b∧∀ o,w.heap[b]?=some o → o.isCells=true) A n e l:=by
 refine ⟨h.n_eq,h.cap_le,h.max_le,h.nil_,fun i x d=>?_⟩;have hi:i < n:=by rw [← h.n_eq];exact (List.getElem?_eq_some_iff.1 d).1
 obtain ⟨y,b,off,v,c,m,f,g,⟨q,p⟩,s⟩:=h.cell1 rfl i hi;rw [d] at c;cases c;have t:(⟨b,off,none⟩:Addr).add (i*(ab k).size+0)=⟨b,off+i,none⟩:=by
  show (⟨b,off,none⟩:Addr).add (i*1+0)=_;unfold Addr.add;split <;> simp_all
 refine ⟨_,[v],m,⟨f,fun o a=>Fk s a⟩,⟨q,p⟩,fun j u r=>?_⟩;cases j with
 | zero =>
  cases r;rw [t];exact s
 | succ j=>cases r
theorem EO {α:Type} {t:Ty α} {w:World} {S:Nat → Prop} {base n r:Nat} {E:TypeId} {v:Value} {l:List α} {o:Obj} (h:Own t w S base E v n l) (a:w.heap[r]?=some o) (m:o.isCells=false):v.ownBlock ≠ some r:=by
 obtain ⟨vs,d,-⟩:=h.out;rcases d.2 with ⟨e,-⟩|⟨g,i,s,e,-,c,-⟩
 ·subst e;intro h;cases h
 ·subst e;intro e;have:g=r:=by simpa [Value.ownBlock] using e
  subst this;rw [c] at a;cases a;cases m
def Dd9 (W:World) (v:Value) (o bP:Nat) (b:Nat):Prop:=b < W.heap.size∧some b ≠ v.ownBlock∧b ≠ o∧b ≠ bP∧∀ ob,W.heap[b]?=some ob → ob.isCells=true
def InA (w:World) (base o bP:Nat) (pre:List Ex) (W:World):Prop:=∃ v,Blk W o 61 #[v]∧Own EF W (Dd9 W v o bP) base 67 v pre.length (pre.map (fun x=>x.d))∧Far w W∧base≤W.heap.size
theorem EG {W t:World} {base o bP n:Nat} {v:Value} {l:List Exit} {row:Option Nat} (h:Own EF W (Dd9 W v o bP) base 67 v n l) (a:W.grownBy t row) (s:v.ownBlock=none ∨ v.ownBlock ≠ row) (i:∀ b,Dd9 W v o bP b → some b ≠ row):Own EF t (Dd9 t v o bP) base 67 v n l :=
 (h.kept a s fun b e=>⟨e.1,i b e⟩).more fun b e=>⟨Nat.lt_of_lt_of_le e.1 a.size,e.2.1,e.2.2.1,e.2.2.2.1,by rw [a.block b e.1 (i b e)];exact e.2.2.2.2⟩
theorem FJ (w:World) (base o bP:Nat) (m:w.heap.size≤bP) (f:o < bP) (y:bP < base):Std bP (InA w base o bP):=by
 rintro s A B r ⟨v,b,t,n,le⟩ i d;have a:∀ k,r=some k → k=bP:=fun k e=>by rcases d with q|q <;> rw [q] at e <;> cases e;rfl
 refine ⟨v,b.rowR i (fun e=>by have:=a o e.symm;omega),EG t i ?_ (fun c h e=>h.2.2.2.1 (a c e.symm)),⟨n.out.grown i n.out.size (fun k e=>by have:=a k e;omega)⟩,lT le i.size⟩;cases l:v.ownBlock with
 | none=>exact .inl rfl
 | some k=>exact .inr fun e=>by have:=a k e.symm;have:=(t.lt k l).1;omega
theorem FH (w:World) (base o bP:Nat) (y:w.heap.size≤base) (p:o < base):OwnFrom base (InA w base o bP):=by
 rintro s A B r ⟨v,b,t,d,le⟩ a i;refine ⟨v,b.rowR a (fun e=>by have:=(i o e.symm).1;omega),EG t a ?_ (fun c n e=>?_),⟨d.out.grown a d.out.size (fun k e=>by have:=(i k e).1;omega)⟩,lT le a.size⟩
 ·cases f:v.ownBlock with
  | none=>exact .inl rfl
  | some k =>
   refine .inr fun e=>?_;obtain ⟨-,l,h,n⟩:=i k e.symm;exact EO t h n f
 ·obtain ⟨-,l,h,m⟩:=i c e.symm;have:=n.2.2.2.2 l h;rw [m] at this;cases this
def InB (w:World) (base o bP:Nat) (act:Nat → Act) (pre:List Ex) (x:Ex) (lo:Nat) (a:Act) (W:World):Prop:=∃ v g9,a=act g9∧Blk W o 61 #[v]∧Own EF W (Dd9 W v o bP) base 67 v pre.length (pre.map (fun x=>x.d))∧(∀ k,v.ownBlock=some k → k < lo)∧Blk W g9 67 (E4 x)∧lo≤g9∧base≤lo ∧
 Sl (ab .i32) W (fun b=>bin lo g9 b∧∀ ob,W.heap[b]?=some ob → ob.isCells=true) x.L x.l x.k x.d.v.logits∧EP x.d∧Far w W
theorem FP (w:World) (base o bP:Nat) (f:Nat → Act) (E:w.heap.size≤base) (F:o < base) (pre:List Ex) (x:Ex) (lo:Nat) (a:Act):OwnFrom base (fun (_:Unit) W=>InB w base o bP f pre x lo a W):=by
 rintro - A B r ⟨v,j,z,b,l,vl,m,D,q,sl,xi,g⟩ d n;refine ⟨v,j,z,b.rowR d (fun e=>by have:=(n o e.symm).1;omega),EG l d ?_ (fun c p e=>?_),vl,m.rowR d (fun e=>?_),D,q,(sl.keep fun y s=>d.block y (by have:=s.1.2;have:=m.lt;omega) (fun e=>?_)).more (fun y s=>⟨s.1,?_⟩),xi,⟨g.out.grown d g.out.size (fun k e=>by have:=(n k e).1;omega)⟩⟩
 ·cases C:v.ownBlock with
  | none=>exact .inl rfl
  | some k =>
   refine .inr fun e=>?_;obtain ⟨-,h,t,p⟩:=n k e.symm;exact EO l t p C
 ·obtain ⟨-,h,t,i⟩:=n c e.symm;have:=p.2.2.2.2 h t;rw [i] at this;cases this
 ·obtain ⟨-,h,t,i⟩:=n j e.symm;exact m.noncells t i rfl
 ·obtain ⟨-,h,t,i⟩:=n y e.symm;have:=s.2 h t;rw [i] at this;cases this
 ·rw [d.block y (by have:=s.1.2;have:=m.lt;omega) (fun e=>by
   obtain ⟨-,h,t,i⟩:=n y e.symm;have:=s.2 h t;rw [i] at this;cases this)]
  exact s.2
theorem Fs (u:Bun) (A1:QA) (n1 c1:Nat) (B:QA) (nb cb:Nat) (C:QA) (nc cc:Nat) (t:ae) (D:QA) (m c g:Nat) (w:World) (OK:dn u) (HF:iw u)
  (E:Blk w g 99 (nK u A1 n1 c1 B nb cb C nc cc)) (om:Sl bJ w (blo w) A1 n1 c1 u.models) (or:Sl fi w (blo w) B nb cb (aO u)) (oi:Sl kt w (blo w) C nc cc (fT u))
  (ht:aw t) (hd:xA w D m c t.data) (ax:m≤300) (bn:t.ok=true) (bs:hvc t=(u.h,u.v,u.c)) (hv:fy t (u.h,u.v,u.c)=true) :
  Calls prog 18 #[.pointer (some ⟨g,0,none⟩),.agg (tN t.h t.v t.c D m c)] w (E6 (exU u t (bZ u)) 0 w):=by
 have ST:=zH (fun w E ha=>Ab t g u.h u.v u.c (.int .i64 u.cl) (.slice A1 n1 c1) (.slice B nb cb) (.slice C nc cc) D m c w E ht ha ax);simp only [hv] at ST;unfold Cx kF at ST;have V:t.data.length≤300:=by have:=hd.n_eq;omega
 obtain ⟨XS,ML⟩:=zh2 (fun X nx cx Y ny cy T bP n0 w hg bb om or oi BN BP sx sy hN hP bp=>Fl u A1 n1 c1 B nb cb C nc cc t X nx cx Y ny cy g T bP n0 5 w OK HF bn bs ht V hg bb om or oi BN BP sx sy hN hP bp dM) (show (exU u t (bZ u)).length≤18 from lT (Fa u t _) (mK OK).2);obtain ⟨XL,be⟩:∃ l,exU u t (bZ u)=l:=⟨_,rfl⟩;rw [be] at XS ML ⊢;obtain ⟨r,HD⟩:=zh2 (And.intro E (And.intro (Old.now om) (And.intro (Old.now or) (Old.now oi)))) (Old.now hd);have lg:=E.lt;clear E hd ht hv OK HF bn bs V om or oi be;have H:=zW w;obtain ⟨w1,bz,B1,k1⟩:=nB w (tN t.h t.v t.c D m c) 29;replace H:=zN k1 H B1;replace r:=zF k1 r;clear B1 k1;refine (callsIn_wide (n:=6)).1 ?_;refine callsIn_of_wp_marks func18 rfl trivial ?_ rfl;simp only [ntmps18,List.size_toArray,List.length_cons,List.length_nil,Nat.reduceAdd,Nat.reduceSub,Array.replicate_succ,Array.replicate_zero,List.push_toArray,List.append_toArray,List.nil_append,List.cons_append];rw [wpIn_wide]
 go_wp2_with (refine lG H.o.2 ?_)
 refine (ST.o _ r.o.1 (HD.o.fut H.o.1.out).all).mono ?_;rintro e w2 ⟨f,G,j,p,F,z,rfl,s1,s2,E⟩;have z2:=E.size;have z1:=H.o.1.size;obtain ⟨H,r⟩:=uz2 E H r;have Q:=zH (And.intro (Old.now s1.old) (Old.now s2.old));clear E s1 s2 ST bz
 go_wp2_with (first
  | (refine sF 37 (.tmp 6) (.tmp 14) #[.int .i64 0,.int .i64 0,.int .i64 0,.int .i64 t.h,.int .i64 t.v,.int .i64 t.c,.slice f G j,.int .i64 t.h,.int .i64 t.v,.int .i64 t.c,.slice p F z] ?_;intro w8 b8 k8;have z8:=b8.out.lt;obtain ⟨H,r,Q⟩:=uz3 k8 H r Q;clear k8;obtain ⟨w9,br,B9,k9⟩:=nB w8 #[.slice none 0 0] 61;have z9:=zL br;replace H:=zN k9 H B9;obtain ⟨r,Q,b8⟩:=uz3 k9 r Q b8;clear k9 B9)
  | (refine lG b8.out ?_))
 refine (Fq g w9 0 0 0 t t f G j p F z).mono ?_;rintro e L ⟨T,bP,rfl,BN,BP,lN,lP,E⟩;have za:=E.size;obtain ⟨H,r,Q⟩:=uz3 E H r Q;have bh:=BP.lt;have I:∀ {α:Type} {ty:Ty α} {A:QA} {n ay:Nat} {l:List α},Old w ty L A n ay l → Sl ty L (blo w2) A n ay l:=fun h=>h.out.more fun b E=>by have:b < w.heap.size:=E;show b < _;omega
 obtain ⟨SQ,BO,FR⟩:=zh3 (XS.o f G j p F z T bP w2.heap.size L r.o.1 oM (I r.o.2.1) (I r.o.2.2.1) (I r.o.2.2.2) BN BP Q.o.1.out Q.o.2.out oM oM oM) H.o.2 H.o.1.1;clear E br BN XS r Q b8 HD H I;go_wp2_with fail;rw [← wpIn_wide (n:=6)];refine Fm dM (gf:=68) (lb:=#[.pointer (some ⟨T,0,none⟩),.pointer (some ⟨bP,0,none⟩)]) rfl (enters_of func68 kM rfl) SQ.o bh (fun _=>rfl) (fun h k=>h.trans k)
  (fun lo W l o h1 h2=>⟨(grownBy_putObj' W l o).size,fun k O hS=>World.putObj_heap_other oM⟩) (InA w L.heap.size w8.heap.size bP) (FJ w L.heap.size w8.heap.size bP oM oM bh) (FH w L.heap.size w8.heap.size bP oM oM) ⟨_,BO.o,Own.nil _ _ _ _ _,FR.o,lR _⟩
  (fun pre x lo a W=>InB w L.heap.size w8.heap.size bP ((fun (x:Ex) (N:Nat)=>({ tmps:=#[.pointer (some ⟨g,0,none⟩),.agg (tN t.h t.v t.c D m c),undef,.pointer (some ⟨w.heap.size,0,none⟩),.slice none 0 0,.int .i64 0,.pointer (some ⟨w2.heap.size,0,none⟩),.int .i64 0,.pointer (some ⟨w8.heap.size,0,none⟩),.pointer (some ⟨N,0,none⟩),.tuple #[.agg #[.int .i64 0,.int .i64 0,.int .i64 0,.int .i64 t.h,.int .i64 t.v,.int .i64 t.c,.slice f G j,.int .i64 t.h,.int .i64 t.v,.int .i64 t.c,.slice p F z],.int .i64 0],.pointer (some ⟨g,0,none⟩),.agg (tN t.h t.v t.c D m c),.tuple #[.agg #[.int .i64 0,.int .i64 0,.int .i64 0,.int .i64 t.h,.int .i64 t.v,.int .i64 t.c,.slice f G j,.int .i64 t.h,.int .i64 t.v,.int .i64 t.c,.slice p F z],.int .i64 0],.agg #[.int .i64 0,.int .i64 0,.int .i64 0,.int .i64 t.h,.int .i64 t.v,.int .i64 t.c,.slice f G j,.int .i64 t.h,.int .i64 t.v,.int .i64 t.c,.slice p F z],.int .i64 0,.int .i64 0,.bool false,undef,.pointer (some ⟨g,0,none⟩),.agg #[.int .i64 0,.int .i64 0,.int .i64 0,.int .i64 t.h,.int .i64 t.v,.int .i64 t.c,.slice f G j,.int .i64 t.h,.int .i64 t.v,.int .i64 t.c,.slice p F z],.func (.func 68) #[] #[.pointer (some ⟨T,0,none⟩),.pointer (some ⟨bP,0,none⟩)],.agg (E4 x),undef,undef,undef,undef,undef],defers:=[] }:Act)) x) pre x lo a W) (fun pre x lo a=>FP w L.heap.size w8.heap.size bP _ oM oM pre x lo a) ?assign ?body ?done
 case assign =>
  rintro l pre x W0 W ⟨v,b,i,M,le⟩ ba ⟨sl,xi⟩ K;simp only [Fu,List.zip_toArray,List.zip_cons_cons,List.zip_nil_right,List.foldl_toArray,List.foldl_cons,List.foldl_nil,List.setIfInBounds_toArray,List.set_cons_succ,List.set_cons_zero];refine EZ kM (by rintro ⟨_,_,h⟩;exact h) ?_;have J:Below W.heap.size W (W.alloc (.cells (E4 x) 67)):=(qB _ _).alloc (lR _) _;have R:W0.grownBy (W.alloc (.cells (E4 x) 67)) none:=grT ba (ET J);obtain ⟨bw,Z⟩:=zh2 (show ∀ a,a=((fun (x:Ex) (N:Nat)=>({ tmps:=#[.pointer (some ⟨g,0,none⟩),.agg (tN t.h t.v t.c D m c),undef,.pointer (some ⟨w.heap.size,0,none⟩),.slice none 0 0,.int .i64 0,.pointer (some ⟨w2.heap.size,0,none⟩),.int .i64 0,.pointer (some ⟨w8.heap.size,0,none⟩),.pointer (some ⟨N,0,none⟩),.tuple #[.agg #[.int .i64 0,.int .i64 0,.int .i64 0,.int .i64 t.h,.int .i64 t.v,.int .i64 t.c,.slice f G j,.int .i64 t.h,.int .i64 t.v,.int .i64 t.c,.slice p F z],.int .i64 0],.pointer (some ⟨g,0,none⟩),.agg (tN t.h t.v t.c D m c),.tuple #[.agg #[.int .i64 0,.int .i64 0,.int .i64 0,.int .i64 t.h,.int .i64 t.v,.int .i64 t.c,.slice f G j,.int .i64 t.h,.int .i64 t.v,.int .i64 t.c,.slice p F z],.int .i64 0],.agg #[.int .i64 0,.int .i64 0,.int .i64 0,.int .i64 t.h,.int .i64 t.v,.int .i64 t.c,.slice f G j,.int .i64 t.h,.int .i64 t.v,.int .i64 t.c,.slice p F z],.int .i64 0,.int .i64 0,.bool false,undef,.pointer (some ⟨g,0,none⟩),.agg #[.int .i64 0,.int .i64 0,.int .i64 0,.int .i64 t.h,.int .i64 t.v,.int .i64 t.c,.slice f G j,.int .i64 t.h,.int .i64 t.v,.int .i64 t.c,.slice p F z],.func (.func 68) #[] #[.pointer (some ⟨T,0,none⟩),.pointer (some ⟨bP,0,none⟩)],.agg (E4 x),undef,undef,undef,undef,undef],defers:=[] }:Act)) x W.heap.size) → InB w L.heap.size w8.heap.size bP ((fun (x:Ex) (N:Nat)=>({ tmps:=#[.pointer (some ⟨g,0,none⟩),.agg (tN t.h t.v t.c D m c),undef,.pointer (some ⟨w.heap.size,0,none⟩),.slice none 0 0,.int .i64 0,.pointer (some ⟨w2.heap.size,0,none⟩),.int .i64 0,.pointer (some ⟨w8.heap.size,0,none⟩),.pointer (some ⟨N,0,none⟩),.tuple #[.agg #[.int .i64 0,.int .i64 0,.int .i64 0,.int .i64 t.h,.int .i64 t.v,.int .i64 t.c,.slice f G j,.int .i64 t.h,.int .i64 t.v,.int .i64 t.c,.slice p F z],.int .i64 0],.pointer (some ⟨g,0,none⟩),.agg (tN t.h t.v t.c D m c),.tuple #[.agg #[.int .i64 0,.int .i64 0,.int .i64 0,.int .i64 t.h,.int .i64 t.v,.int .i64 t.c,.slice f G j,.int .i64 t.h,.int .i64 t.v,.int .i64 t.c,.slice p F z],.int .i64 0],.agg #[.int .i64 0,.int .i64 0,.int .i64 0,.int .i64 t.h,.int .i64 t.v,.int .i64 t.c,.slice f G j,.int .i64 t.h,.int .i64 t.v,.int .i64 t.c,.slice p F z],.int .i64 0,.int .i64 0,.bool false,undef,.pointer (some ⟨g,0,none⟩),.agg #[.int .i64 0,.int .i64 0,.int .i64 0,.int .i64 t.h,.int .i64 t.v,.int .i64 t.c,.slice f G j,.int .i64 t.h,.int .i64 t.v,.int .i64 t.c,.slice p F z],.func (.func 68) #[] #[.pointer (some ⟨T,0,none⟩),.pointer (some ⟨bP,0,none⟩)],.agg (E4 x),undef,undef,undef,undef,undef],defers:=[] }:Act)) x) pre x W0.heap.size a (W.alloc (.cells (E4 x) 67)) from fun a ha=>⟨v,W.heap.size,ha,b.rowR R (fun e=>by cases e),EG i R (by cases v.ownBlock with|none=>exact .inl rfl|some k=>exact .inr (fun e=>by cases e)) (fun c hc e=>by cases e),fun k O=>(i.lt k O).2,Blk.now W W.heap.size _ _ rfl,ba.size,le,(sl.cellsD.keep fun y s=>J.block y s.1.2).more (fun y s=>⟨s.1,by rw [J.block y s.1.2];exact s.2⟩),xi,⟨M.out.grown R M.out.size (fun k e=>by cases e)⟩⟩) J;clear J R sl xi i b M;go_wp2;exact ⟨vf Z.o,⟨Z.o.size,fun k O _=>Z.o.block k O⟩,bw.o _ rfl⟩
 case body =>
  rintro l pre x lo a1 W K ⟨v,N,rfl,b,i,vl,b9,l9,bl,sl,xi,M⟩;have bA:=b9.lt;have U:Own EF W (fun y=>Dd9 W v w8.heap.size bP y ∨ (bin lo N y∧∀ P,W.heap[y]?=some P → P.isCells=true)) L.heap.size 67 v pre.length (pre.map (fun x=>x.d)):=i.more fun y s=>.inl s;have bo:∀ y,(Dd9 W v w8.heap.size bP y ∨ (bin lo N y∧∀ P,W.heap[y]?=some P → P.isCells=true)) → y < W.heap.size∧some y ≠ v.ownBlock:=fun y s=>by
   rcases s with h|h
   ·exact ⟨h.1,h.2.1⟩
   ·exact ⟨by have:=h.1.2;omega,fun e=>by have:=vl y e.symm;have:=h.1.1;omega⟩
  obtain ⟨OW,RP,ad,al,VL,ac⟩:=zh6 (And.intro U bo) (Fy xi (sl.more (S':=fun y=>Dd9 W v w8.heap.size bP y ∨ (bin lo N y∧∀ P,W.heap[y]?=some P → P.isCells=true)) (fun y s=>.inr s))) (And.intro b b9) M vl K;have cO:=b.cell 0;simp only [List.getElem?_toArray,List.getElem?_cons_zero] at cO;clear i U bo sl xi b b9 M vl K;refine wpIn_block ?_;refine EZ kM (by rintro ⟨_,_,h,_⟩;cases h) ?_
  go_wp2_with (first
   | (refine lB 67 (.tmp 9) N ad.o.2 underlying67 ?_)
   | (at_builtin;refine wpList_push (t:=EF) rfl _ _ rfl FF (v:=v) rfl OW.o.1 1 rfl x.d RP.o (by unfold maxLen;have:=ac.o;omega) (by have:=ac.o;omega) oM OW.o.2 ?_;intro v' W3 an S bt;have zw:=S.size;have ah:=zH (ad.o.1.rowR S (fun e=>by have:=(OW.o.1.lt _ e.symm).1;omega));obtain ⟨A7,c7,bx,-⟩:=an.sl (S':=fun _=>True) dM (fun _ _ _=>trivial) (fun _ _=>trivial);subst bx;have O3:=zH an;have G3:=zH S;have AT:=zH bt;clear an S bt)
   | (refine wpList_store_one rfl 61 (.tmp 8) (.tmp 26) rfl w8.heap.size 0 (.slice A7 (pre.length+1) c7) rfl rfl rfl rfl _ #[v] #[.slice A7 (pre.length+1) c7] ah.o sM kM rfl ?_;intro W4 B4 g4;have G4:=zH g4;have B4:=zH B4;clear g4))
  have O4:Own EF W3 (Dd9 W3 (.slice A7 (pre.length+1) c7) w8.heap.size bP) L.heap.size 67 (.slice A7 (pre.length+1) c7) (pre.length+1) (pre.map (fun x=>x.d) ++ [x.d]):=O3.o.more fun y s=>by
   obtain ⟨y1,y2⟩:=OW.o.2 y s;refine ⟨Nat.lt_of_lt_of_le y1 zw,fun e=>?_,?_,?_,?_⟩
   ·rcases AT.o with q|q
    ·exact y2 (e.trans q)
    ·have:=sI (e.trans q);omega
   ·rcases s with h|h
    ·exact h.2.2.1
    ·have:=h.1.1;omega
   ·rcases s with h|h
    ·exact h.2.2.2.1
    ·have:=h.1.1;omega
   ·rw [G3.o.block y y1 y2];rcases s with h|h
    ·exact h.2.2.2.2
    ·exact h.2
  have KZ:EK w2.heap.size T bP lo W W4:=⟨lT zw G4.o.size,fun k O hS=>(G4.o.block k oM (fun e=>by have:=sI e;omega)).trans (G3.o.block k O (fun e=>by have:=VL.o k e.symm;have:=(OW.o.1.lt k e.symm).1;omega))⟩;have FZ:=al.o.out.grown G3.o al.o.out.size (fun k e=>by have:=(OW.o.1.lt k e).1;have:=FR.o.size;omega);have bd:=FZ.grown G4.o FZ.size (fun k e=>by have:=sI e;omega);refine ⟨by trivial,(qR G3.o (fun k P e O ho=>EO OW.o.1 O ho e)).trans (qR G4.o (fun k P e O ho=>ah.o.noncells O ho (sI e))),KZ,_,B4.o,?_,⟨bd⟩,by have:=KZ.size;omega⟩;rw [List.length_append,List.map_append];exact EG O4 G4.o (by
   cases hv:(Value.slice A7 (pre.length+1) c7).ownBlock with
   | none=>exact .inl rfl
   | some k=>exact .inr fun e=>by have:=sI e;have:=(O4.lt k hv).1;omega) (fun y s e=>s.2.2.1 (sI e))
 case done =>
  rintro D1 xs W hD hf ⟨v,b,i,M,le⟩ hK;obtain ⟨A9,c9,rfl,-⟩:=i.sl (S':=fun _=>True) dM (fun _ _ _=>trivial) (fun _ _=>trivial);have gp:=grownBy_putObj' W D1 (.deferred none);have O2:=zH (EG i gp (by
   cases hv:(Value.slice A9 xs.length c9).ownBlock with
   | none=>exact .inl rfl
   | some k=>exact .inr fun e=>EO i hK rfl (hv.trans e)) (fun y s e=>by have h9:=s.2.2.2.2 _ (by rw [sI e];exact hK);cases h9))
  obtain ⟨F2,bc,HF⟩:=zh3 (M.out.grown gp M.out.size (fun k e=>by have:=sI e;have:=FR.o.size;omega)) hK hf;have cO:=b.cell 0;simp only [List.getElem?_toArray,List.getElem?_cons_zero] at cO;clear i M b gp hK hf
  go_step
  go_wp2_with fail;refine ⟨by simp,.inl ⟨_,_,rfl,run_takeDeferred bc.o,?_⟩⟩;obtain ⟨A2,c2,bg,s2⟩:=O2.o.sl (S':=blo _) dM (fun y h1 h2=>h2) (fun y s=>s.1);injection bg with q1 q2 q3
  subst q1 q3;refine ⟨_,results_tmp2 rfl _ _ _,A9,_,c9,rfl,?_,F2.o⟩;rw [← HF.o];exact s2
end Go.Proofs.YtbecbfpoahhpnaaGreat
