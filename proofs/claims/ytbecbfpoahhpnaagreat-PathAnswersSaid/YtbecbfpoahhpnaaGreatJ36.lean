/- An exit, a block of its own (layer 35): bundle.copiedHead, copiedBlock. -/
import Derived.Test.YtbecbfpoahhpnaaGreatJ29
import Derived.Test.YtbecbfpoahhpnaaGreatJ35
import Derived.Test.YtbecbfpoahhpnaaGreatJ31
set_option linter.unusedVariables false
set_option linter.unusedSimpArgs false
set_option maxRecDepth 100000
set_option maxHeartbeats 16000000
namespace Go.Proofs.YtbecbfpoahhpnaaGreat
open Go.RowKit Go.ChangeShapes Go.WideShapes Tryz
def Cw (h:Hd) (nw nb:Nat) (w:World) (e:Ending) (w':World):Prop :=
 ∃ W c1 B c2,e=.returned (.agg #[.slice W nw c1,.slice B nb c2,.int .i32 h.need])∧Sl (ab .i8) w' (bin w w') W nw c1 h.w∧Sl (ab .i32) w' (bin w w') B nb c2 h.bias∧Below w w w'
theorem pU (h:Hd) (W:QA) (nw s:Nat) (B:QA) (nb cb:Nat) (w:World) (L:xA w W nw s h.w) (a:xB w B nb cb h.bias) (Z:nw≤4000) (m2:nb≤4000) :
  Calls prog 81 #[.agg #[.slice W nw s,.slice B nb cb,.int .i32 h.need]] w (Cw h nw nb w):=by
 obtain ⟨M,b,E,D⟩:=zh4 (fun w q=>eV W nw s h.w w q oM) (fun w q=>fY B nb cb h.bias w q oM) (Old.now L) (Old.now a);have H:=zW w;obtain ⟨need,j⟩:∃ x,h.need=x:=⟨_,rfl⟩;have O:=zH j;rw [j];clear L a j;obtain ⟨S,c,z,k1⟩:=nB w #[.slice W nw s,.slice B nb cb,.int .i32 need] 49;replace H:=zN k1 H z;clear z k1;obtain ⟨v,m,A,k2⟩:=nB S #[.slice none 0 0,.slice none 0 0,.int .i32 0] 49;have C:=zN k2 H A;clear A k2 H;have U:=zL c;have T:=zL m;go_in
 go_upto_region 1 with fail
 clear c m;have H:=zD v C;clear C;refine aP (fun w'=>w'.cell? ⟨w.heap.size,0,none⟩=some (.slice W nw s)∧w'.cell? ⟨w.heap.size,1,none⟩=some (.slice B nb cb)∧Below v v w') 7 kM ?_ (fun t=>?_)
 ·exact ⟨H.o.1.2.cell 0,H.o.1.2.cell 1,(qB _ _).drew⟩
 refine kT' 0 t ?_;refine kT' 1 t ?_;refine kT' 3 t ?_;refine kT' 4 t ?_;refine rT 2 (fun K r=>?_);go_simp;refine (M.o _ (E.o.fut H.o.1.1.out).all).mono ?_;rintro e w3 ⟨X,d,n,rfl,q,a⟩;have F:=zH (show New v _ _ _ _ _ _ from New.of q ⟨(qB _ _).drew⟩);have P:=zH q.n_eq;replace H:=zN a H F;clear q F;refine xK r (zR a t) fun t=>?_;clear r K;refine kT' 6 t ?_;refine rT 5 (fun K r=>?_);go_simp;refine (b.o _ (D.o.fut H.o.1.1.1.out).all).mono ?_;rintro e w4 ⟨Y,l,f,rfl,q,a⟩;have G:=zH (New.of q (Far.refl _));have z3:=H.o.1.1.2.lt;have z4:=H.o.1.2.lt;have Q:=zH q.n_eq;replace H:=zN a H G;clear q G;refine xK r (zR a t) fun t=>?_;clear r K;refine wpAnyT_tail _ _ rfl rfl kM ?_;obtain rfl:d=nw:=by rw [← P.o];exact E.o.out.n_eq
 obtain rfl:l=nb:=by rw [← Q.o];exact D.o.out.n_eq
 have k:=zH t.2.2.size;clear t a;have i:=zH (And.intro H.o.1.2 H.o.2);have y1:=H.o.1.1.1.1.size;have y2:=H.o.1.1.2.lt;replace H:=zH H.o.1.1;have V:=k.out
 go_wp2_with (first
  | (refine wpList_store_one rfl _ (.tmp 9) (.tmp 5) rfl w.heap.size 0 (.slice X d n) rfl rfl rfl rfl _ _ #[.slice X d n,.slice B l cb,.int .i32 need] H.o.1.2 sM kM rfl ?_;intro w5 I y;replace i:=zA y i;replace H:=zH (And.intro (And.intro (H.o.1.1.away y (lR _)) I) (H.o.2.away y oM));clear I y)
  | (refine wpList_store_one rfl _ (.tmp 10) (.tmp 8) rfl w.heap.size 1 (.slice Y l f) rfl rfl rfl rfl _ _ #[.slice X d n,.slice Y l f,.int .i32 need] H.o.1.2 sM kM rfl ?_;intro w6 J p;replace i:=zA p i;replace H:=zH (And.intro (And.intro (H.o.1.1.away p (lR _)) J) (H.o.2.away p oM));clear J p)
  | (refine lG H.o.1.2 ?_)
  | (refine sG #[.slice X d n,.slice Y l f,.int .i32 need] H.o.2 ?_;intro w7 R g;replace i:=zA g i;have N:=zA g (zH H.o.1.1);clear g))
 refine ret_cell rfl R rfl underlying49 kM rfl ?_;exact ⟨X,n,Y,f,by rw [O.o],i.o.1.out.more (aW oM (lR _)),i.o.2.out.more (aW oM (lR _)),N.o.out⟩
def Dz (b:aN) (n nw nb:Nat) (w:World) (e:Ending) (w':World):Prop :=
 ∃ L c0 W c1 B c2,e=.returned (.agg #[.slice L n c0,.bool b.exit,.slice W nw c1,.slice B nb c2,.int .i32 b.head.need])∧dz b L n c0 W nw c1 B nb c2 (bin w w') w'∧Below w w w'
theorem Da {w:World} {S:Nat → Prop} {d:af} {W:QA} {nw e:Nat} {B:QA} {nb cb:Nat} (h:aQ d) (o:Sl (ab .i8) w S W nw e d.w) (t:Sl (ab .i32) w S B nb cb d.bias):di.rep w S [.int .i64 d.kind,.int .i64 d.a,.int .i64 d.b,.int .i64 d.k,.int .i64 d.s,.int .i64 d.p,.int .i64 d.out,.int .i8 d.za,.int .i8 d.zb,.slice W nw e,.slice B nb cb,.int .i32 d.qm,.int .i64 d.qs,.int .i8 d.qz,.int .i32 d.rm,.int .i64 d.rs,.int .i8 d.rz,.int .i8 d.lo,.int .i8 d.hi] d :=
 ⟨(d.kind,d.a,d.b,d.k,d.s,d.p,d.out,d.za,d.zb,d.w,d.bias,(d.qm,d.qs,d.qz),(d.rm,d.rs,d.rz),d.lo,d.hi),rfl,
  _,_,rfl,⟨rfl,h.kind⟩,_,_,rfl,⟨rfl,h.a⟩,_,_,rfl,⟨rfl,h.b⟩,_,_,rfl,⟨rfl,h.k⟩,_,_,rfl,⟨rfl,h.s⟩,_,_,rfl,⟨rfl,h.p⟩,_,_,rfl,⟨rfl,h.out⟩,_,_,rfl,⟨rfl,h.za⟩,_,_,rfl,⟨rfl,h.zb⟩,
  _,_,rfl,o.rep,_,_,rfl,t.rep,_,_,rfl,⟨_,_,rfl,⟨rfl,h.qm⟩,_,_,rfl,⟨rfl,h.qs⟩,rfl,h.qz⟩,_,_,rfl,⟨_,_,rfl,⟨rfl,h.rm⟩,_,_,rfl,⟨rfl,h.rs⟩,rfl,h.rz⟩,_,_,rfl,⟨rfl,h.lo⟩,rfl,h.hi⟩
theorem Du {c:List Value} {p:Nat} {u v:Value} (h:p+2≤c.length):(c.take p ++ [u] ++ c.drop (p+1)).take (p+1) ++ [v] ++ (c.take p ++ [u] ++ c.drop (p+1)).drop (p+1+1)=c.take p ++ [u,v] ++ c.drop (p+2):=by
 have e:(c.take p ++ [u]).length=p+1:=by rw [List.length_append,List.length_take];simp;omega
 rw [List.take_append_of_le_length oM,List.take_of_length_le oM,List.drop_append,e,List.drop_of_length_le oM,List.nil_append,List.drop_drop,show p+1+(p+1+1 - (p+1))=p+2 by omega];simp
theorem oO (b:aN) (L:QA) (n cn:Nat) (W:QA) (nw V:Nat) (B:QA) (nb cb:Nat) (w:World) (r:dz b L n cn W nw V B nb cb (blo w) w) (hf:iu b) (hn:1≤n) :
  Calls prog 55 #[.agg #[.slice L n cn,.bool b.exit,.slice W nw V,.slice B nb cb,.int .i32 b.head.need]] w (Dz b n nw nb w):=by
 have LN:=zH r.nodes.n_eq;have bl:n≤12:=by have:=hf.1.1;rw [r.nodes.n_eq] at this;exact this
 obtain ⟨FW,CN,CH,HB,NE⟩:=zh5 hf.1.2 (fun w q=>rF L n cn b.nodes w (blo w) (fun _ h=>h) q oM) (fun w q1 q2=>pU b.head W nw V B nb cb w q1 q2 (by have:=hf.2.1;rw [r.hw.n_eq] at this;omega) (by have:=hf.2.2;rw [r.hb.n_eq] at this;omega)) r r.need;have H:=zW w;obtain ⟨need,N⟩:∃ x,b.head.need=x:=⟨_,rfl⟩;obtain ⟨ex,T⟩:∃ x,b.exit=x:=⟨_,rfl⟩;have HE:=zH (And.intro N T);unfold Cw at CH;rw [N,T];simp only [N] at CH;clear r hf N T;obtain ⟨w1,ba,B1,k1⟩:=nB w #[.slice L n cn,.bool ex,.slice W nw V,.slice B nb cb,.int .i32 need] 51;replace H:=zN k1 H B1;clear B1 k1;obtain ⟨w2,bo,B2,k2⟩:=nB w1 #[.slice none 0 0,.bool false,.slice none 0 0,.slice none 0 0,.int .i32 0] 51;replace H:=zN k2 H B2;clear B2 k2;have l1:=zL ba;have l2:=zL bo;have cA:=fun i=>H.o.1.2.cell i;go_in;go_wp2_with fail;refine (CN.o _ (HB.o.fut H.o.1.1.out).nodes).mono ?_;rintro e w3 ⟨v,rfl,ho,r⟩;have br:=ho.toB (by rw [jG];decide);have ah:=zH r;clear ho cA;rcases br with ⟨-,q,-⟩|⟨g,F,an,rfl,hg,l⟩
 ·omega
 have H2:=H;clear H r ba bo;go_wp2;go_loopw [11] (fun i wr=>∃ (k:Nat) (S:Nat → Nat → Prop) (C:Array Value),k≤n∧i=.int .i64 k∧dY di wr S g 84 n F b.nodes C∧(∀ j x,j < n → S j x → x < wr.heap.size∧x ≠ g∧(j < k → w2.heap.size≤x))∧Below w2 w2 wr) (fun i _=>n - (intOf i).toNat)
 case atStart=>exact ⟨0,_,an,zl _,rfl,l,fun j x f A=>⟨Nat.lt_of_lt_of_le (show x < w2.heap.size from A) ah.out.size,fun e=>absurd (show x < w2.heap.size from A) oM,fun h=>by omega⟩,ah.out⟩
 case round =>
  clear l;obtain ⟨k,S,C,hk,rfl,hO,z,M⟩:=hrel;obtain ⟨l,E⟩:=zh2 hO z;have H:=zF M H2;have zr:=M.size;have G2:=zH M;clear hO z M;by_cases I:k < n
  ·have p1:(k:Int) < (n:Int):=oM;have gi:IntKind.i64.wrap ((k:Int)+1)=((k+1:Nat):Int):=(wJ).trans sM;have be:k < b.nodes.length:=by rw [LN.o];exact I
   have hd:b.nodes[k]?=some b.nodes[k]:=List.getElem?_eq_getElem be;obtain ⟨d,ac⟩:∃ d,b.nodes[k]=d:=⟨_,rfl⟩;rw [ac] at hd;obtain ⟨X0,mx,cx,Y0,my,cy,hc,ay,h8,Q⟩:=qX (l.o.at_ k d hd);have HC:=zH hc;rw [jG] at HC;have FD:=FW.o d (mG hd);have RG:=zH (show wr.rangeAt g (k*19) [.int .i64 d.kind,.int .i64 d.a,.int .i64 d.b,.int .i64 d.k,.int .i64 d.s,.int .i64 d.p,.int .i64 d.out,.int .i8 d.za,.int .i8 d.zb,.slice X0 mx cx,.slice Y0 my cy,.int .i32 d.qm,.int .i64 d.qs,.int .i8 d.qz,.int .i32 d.rm,.int .i64 d.rs,.int .i8 d.rz,.int .i8 d.lo,.int .i8 d.hi] from fun j v hv=>by
    rw [l.o.blk.cell,← Array.getElem?_toList];rw [← HC.o] at hv;exact nS hv)
   obtain ⟨HD,IN,A8,bn⟩:=zh4 hd ay (show Old wr (ab .i8) wr X0 mx cx d.w from ⟨h8.more fun x A=>(E.o k x I A).1,lR _⟩) (show Old wr (ab .i32) wr Y0 my cy d.bias from ⟨Q.more fun x A=>(E.o k x I A).1,lR _⟩);have q8:=h8.n_eq;have bc:=Q.n_eq;obtain ⟨C8,Z⟩:=zh2 (fun w q=>eV X0 mx cx d.w w q oM) (fun w q=>fY Y0 my cy d.bias w q oM);have bh:=l.o.blk.lt;clear hd ac hc ay h8 Q be;have t:=zW wr
   go_upto_region 5 with (first|(refine lM 84 (.tmp 14) RG.o underlying84 ?_)|(refine sF 84 (.tmp 5) (.tmp 15) (nD d X0 mx cx Y0 my cy) ?_;intro w5 b5 k5;replace t:=zN k5 t b5;clear b5 k5))
   have t:=zD w5 t;have g9:=t.o.2.cell 9;have bd:=t.o.2.cell 10;refine wp_region_any kM ?_;refine wpAny_take (i:=0) (v:=?_) rfl (by as_aux_lemma=>kernel_rfl) (by as_aux_lemma=>kernel_rfl) (by as_aux_lemma=>kernel_rfl) (fun _ _ _ h=>h) (Or.inl ⟨by rfl,?_⟩) ?_;rotate_left
   ·intro w;go_simp;try with_reducible rfl
   try simp only [pX]
   refine wpAny_take (i:=1) (v:=?_) rfl (by as_aux_lemma=>kernel_rfl) (by as_aux_lemma=>kernel_rfl) (by as_aux_lemma=>kernel_rfl) (fun _ _ _ h=>h) (Or.inl ⟨by rfl,?_⟩) ?_;rotate_left
   ·intro w;go_simp;try with_reducible rfl
   try simp only [pX]
   refine wpAny_take (i:=2) (v:=?_) rfl (by as_aux_lemma=>kernel_rfl) (by as_aux_lemma=>kernel_rfl) (by as_aux_lemma=>kernel_rfl) (fun _ _ _ h=>h) (Or.inl ⟨by rfl,?_⟩) ?_;rotate_left
   ·intro w;go_simp;try with_reducible rfl
   try simp only [pX]
   refine wpAny_take (i:=3) (v:=?_) rfl (by as_aux_lemma=>kernel_rfl) (by as_aux_lemma=>kernel_rfl) (by as_aux_lemma=>kernel_rfl) (fun _ _ _ h=>h) (Or.inl ⟨by rfl,?_⟩) ?_;rotate_left
   ·intro w;go_simp;try with_reducible rfl
   try simp only [pX]
   refine wpAny_take (i:=4) (v:=?_) rfl (by as_aux_lemma=>kernel_rfl) (by as_aux_lemma=>kernel_rfl) (by as_aux_lemma=>kernel_rfl) (fun _ _ _ h=>h) (Or.inl ⟨by rfl,?_⟩) ?_;rotate_left
   ·intro w;go_simp;try with_reducible rfl
   try simp only [pX]
   refine wpAny_take (i:=7) (v:=?_) rfl (by as_aux_lemma=>kernel_rfl) (by as_aux_lemma=>kernel_rfl) (by as_aux_lemma=>kernel_rfl) (fun _ _ _ h=>h) (Or.inl ⟨by rfl,?_⟩) ?_;rotate_left
   ·intro w;go_simp;try with_reducible rfl
   try simp only [pX]
   refine wpAny_enterT (fun w'=>w'.cell? ⟨wr.heap.size,9,none⟩=some (.slice X0 mx cx)∧w'.cell? ⟨wr.heap.size,10,none⟩=some (.slice Y0 my cy)∧Below w5 w5 w') 10 ?_ (fun z=>?_)
   ·exact ⟨t.o.2.cell 9,t.o.2.cell 10,(qB _ _).drew⟩
   refine kT' 5 z ?_;refine mC 9 (i:=8) (v:=?_) rfl (by as_aux_lemma=>kernel_rfl) (by as_aux_lemma=>kernel_rfl) (by as_aux_lemma=>kernel_rfl) (by as_aux_lemma=>kernel_rfl) (by as_aux_lemma=>kernel_rfl) (by as_aux_lemma=>kernel_rfl) rfl (fun _ _ _ h=>h) (Or.inl ⟨by rfl,?_⟩) z ?_;rotate_left
   ·intro w bs;(try dsimp only at bs);go_simp;try with_reducible rfl
   try simp only [pX]
   refine rT 6 (fun K O=>?_);go_simp;refine (C8.o _ (A8.o.fut t.o.1.out).all).mono ?_;rintro e w6 ⟨X,m3,U,rfl,q,r⟩;have N1:=zH (show New wr _ _ _ _ _ _ from New.of q t.o.1);have L1:=zH q.n_eq;replace t:=zN r t N1;clear q N1;refine xK O (by first|exact zR r z|exact ⟨au r z.1,au r z.2.1,aa r z.2.2⟩) fun z=>?_;clear O K;refine rT 9 (fun K O=>?_);go_simp;refine (Z.o _ (bn.o.fut t.o.1.1.out).all).mono ?_;rintro e w7 ⟨Y,m4,c4,rfl,q,r⟩;have N2:=zH (show New wr _ _ _ _ _ _ from New.of q t.o.1.1);have L2:=zH q.n_eq;replace t:=zN r t N2;clear q N2;refine xK O (by first|exact zR r z|exact ⟨au r z.1,au r z.2.1,aa r z.2.2⟩) fun z=>?_;clear O K;refine wpAnyT_tail _ _ rfl rfl kM ?_;clear z r C8 Z RG;obtain ⟨J,D⟩:=zh2 t.o.1.1.1.out (And.intro t.o.1.2 t.o.2);clear t;replace H:=zF J.o H;replace l:=zH (l.o.fut J.o fun j b f y=>(E.o j b f y).1);obtain ⟨SK,OC⟩:=zh2 (fun x (h:S k x)=>(E.o k x I h).1) (And.intro l.o.size (And.intro l.o.le (l.o.blk.lt)));rw [jG] at OC;have z1:(k+1)*19≤F*19:=Nat.mul_le_mul_right _ (by have:=OC.o.2.1;omega);have f0:k*19+9 < C.size:=by rw [OC.o.1];omega
   obtain ⟨m,R⟩:∃ c:Array Value,c.toList=C.toList.take (k*19+9) ++ [.slice X m3 U] ++ C.toList.drop (k*19+9+1):=⟨_,List.toList_toArray⟩;have f1:k*19+10 < m.size:=by rw [← Array.length_toList,R,List.length_append,List.length_append,List.length_take,List.length_drop,Array.length_toList,OC.o.1];simp;omega
   obtain ⟨G,al⟩:∃ c:Array Value,c.toList=m.toList.take (k*19+10) ++ [.slice Y m4 c4] ++ m.toList.drop (k*19+10+1):=⟨_,List.toList_toArray⟩;obtain ⟨C1,C2,F0,F1⟩:=zh4 R al f0 f1;clear R al f0 f1
   go_wp2_with (first
    | (refine wpList_store_one rfl _ (.tmp 27) (.tmp 22) rfl g (k*19+9) (.slice X m3 U) rfl rfl rfl rfl _ C m l.o.blk F0.o kM C1.o ?_;intro w8 b8 g8;replace D:=zA g8 D;replace H:=zA g8 H)
    | (refine wpList_store_one rfl _ (.tmp 29) (.tmp 25) rfl g (k*19+10) (.slice Y m4 c4) rfl rfl rfl rfl _ m G b8 F1.o kM C2.o ?_;intro w9 b9 g9;replace D:=zA g9 D;replace H:=zA g9 H))
   have P:=g8.trans g9;have z7:=J.o.size;have z9:=P.size;have ad:dY di w9 (fun j x=>(j ≠ k∧S j x) ∨ (j=k∧wr.heap.size≤x∧x < w9.heap.size)) g 84 n F (b.nodes.set k d) G:=by
    refine l.o.put (o:=9) (ps:=[.slice X m3 U,.slice Y m4 c4]) I P b9 ?_ (Nat.le_of_ble_eq_true rfl) (fun j x f ax y=>⟨.inl ⟨ax,y⟩,Nat.lt_of_lt_of_le (E.o j x f y).1 z7,(E.o j x f y).2.1⟩) ?_
    ·rw [C2.o,C1.o,jG];exact Du (by rw [Array.length_toList,OC.o.1];omega)
    ·rw [jG,HC.o];exact Da IN.o (D.o.1.out.more fun x A=>.inr ⟨rfl,A.1,A.2⟩) (D.o.2.out.more fun x A=>.inr ⟨rfl,A.1,A.2⟩)
   have bt:b.nodes.set k d=b.nodes:=by
    obtain ⟨h1,h2⟩:=List.getElem?_eq_some_iff.1 HD.o;rw [← h2,List.set_getElem_self]
   rw [bt] at ad;refine ⟨⟨k+1,_,G,by omega,by go_num,ad,?_,(aa J.o G2.o).grown P oM (fun x A=>by have:=sI A;omega)⟩,by simp [intOf];omega⟩;rintro j x f (⟨ax,y⟩|⟨rfl,h1,h2⟩)
   ·have:=E.o j x f y;exact ⟨by omega,this.2.1,fun h=>this.2.2 oM⟩
   ·exact ⟨h2,by omega,fun _=>by omega⟩
  ·obtain rfl:n=k:=oM;have p1:¬ (n:Int) < (n:Int):=oM;have bh:=l.o.blk.lt
   go_upto_region 7 with fail
   replace H:=zD wr H;have t:=zH (Far.refl wr).draw;refine wp_region_any kM ?_;refine wpAny_take (i:=0) (v:=?_) rfl (by as_aux_lemma=>kernel_rfl) (by as_aux_lemma=>kernel_rfl) (by as_aux_lemma=>kernel_rfl) (fun _ _ _ h=>h) (Or.inl ⟨by rfl,?_⟩) ?_;rotate_left
   ·intro w;go_simp;try with_reducible rfl
   try simp only [pX]
   refine wpAny_take (i:=1) (v:=?_) rfl (by as_aux_lemma=>kernel_rfl) (by as_aux_lemma=>kernel_rfl) (by as_aux_lemma=>kernel_rfl) (fun _ _ _ h=>h) (Or.inl ⟨by rfl,?_⟩) ?_;rotate_left
   ·intro w;go_simp;try with_reducible rfl
   try simp only [pX]
   refine wpAny_take (i:=3) (v:=?_) rfl (by as_aux_lemma=>kernel_rfl) (by as_aux_lemma=>kernel_rfl) (by as_aux_lemma=>kernel_rfl) (fun _ _ _ h=>h) (Or.inl ⟨by rfl,?_⟩) ?_;rotate_left
   ·intro w;go_simp;try with_reducible rfl
   try simp only [pX]
   refine wpAny_enterT (fun w'=>w'.cell? ⟨w.heap.size,1,none⟩=some (.bool ex)∧Blk w' w.heap.size 51 #[.slice L n cn,.bool ex,.slice W nw V,.slice B nb cb,.int .i32 need]∧Below wr wr w') 6 ?_ (fun z=>?_)
   ·exact ⟨H.o.1.2.cell 1,H.o.1.2,(qB _ _).drew⟩
   refine kT' 2 z ?_;refine mC 5 (i:=4) rfl (by as_aux_lemma=>kernel_rfl) (by as_aux_lemma=>kernel_rfl) (by as_aux_lemma=>kernel_rfl) (by as_aux_lemma=>kernel_rfl) (by as_aux_lemma=>kernel_rfl) (by as_aux_lemma=>kernel_rfl) rfl (fun _ _ _ h=>h) (yP #[.slice W nw V,.slice B nb cb,.int .i32 need] (fun w y=>y.2.1)) z ?_;try simp only [pX]
   refine rT 5 (fun K O=>?_);go_simp;refine (CH.o _ (HB.o.fut H.o.1.1.out).hw (HB.o.fut H.o.1.1.out).hb).mono ?_;rintro e w4 ⟨X,U,Y,c4,rfl,qx,qy,r⟩;have D:=zH (And.intro qx qy);have z4:=r.size;obtain ⟨H,t⟩:=uz2 r H t;clear qx qy;refine xK O (by first|exact zR r z|exact ⟨au r z.1,z.2.1.later r,aa r z.2.2⟩) fun z=>?_;clear O K;refine wpAnyT_tail _ _ rfl rfl kM ?_;have FW:=zH t.o.out;have z5:=t.o.out.size;clear z r CH t;replace l:=zH (l.o.fut FW.o fun j b f y=>(E.o j b f y).1)
   go_wp2_with (refine sG #[.slice (some ⟨g,0,none⟩) n F,.bool ex,.slice X nw U,.slice Y nb c4,.int .i32 need] H.o.2 ?_;intro w7 b7 g7;have F7:=zA g7 (zH H.o.1.1);have N7:=zH (l.o.away g7 oM fun j x f y=>⟨Nat.lt_of_lt_of_le (E.o j x f y).1 z5,by have:=(E.o j x f y).2.2 f;omega⟩);replace D:=zA g7 (zH (And.intro (show New wr _ _ _ _ _ _ from ⟨D.o.1⟩) (show New wr _ _ _ _ _ _ from ⟨D.o.2⟩)));have z7:=g7.size;clear g7)
   refine ret_cell rfl b7 rfl underlying51 kM rfl ?_;refine ⟨_,F,X,U,Y,c4,by rw [HE.o.1,HE.o.2],⟨N7.o.sl ⟨by omega,by omega⟩ fun j x f y=>⟨?_,?_⟩,?_,?_,NE.o⟩,F7.o.out⟩
   ·have:=(E.o j x f y).2.2 f;omega
   ·have:=(E.o j x f y).1;omega
   ·exact D.o.1.out.more (aW oM (lR _))
   ·exact D.o.2.out.more (aW oM (lR _))
def x7 (u:Bun) (n:Nat) (w:World) (e:Ending) (w':World):Prop :=
 ∃ A cap,e=.returned (.agg #[.int .i64 u.h,.int .i64 u.v,.int .i64 u.c,.int .i64 u.cl,.slice A n cap])∧Sl bJ w' (bin w w') A n cap u.models∧Below w w w'
theorem uu {α:Type} {l:List α} {k:Nat} {d:α} (h:l[k]?=some d):l.set k d=l:=by
 obtain ⟨t,e⟩:=List.getElem?_eq_some_iff.1 h;rw [← e,List.set_getElem_self]
theorem jV:bJ.size=1:=rfl
theorem pO:eQ.size=5:=rfl
theorem pP (u:Bun) (A:QA) (n P:Nat) (w:World) (hu:Sl bJ w (blo w) A n P u.models) (hf:iw u) (hn:1≤n) (h1:∀ m ∈ u.models,1≤m.length∧∀ b ∈ m,1≤b.nodes.length) :
  Calls prog 30 #[.agg #[.int .i64 u.h,.int .i64 u.v,.int .i64 u.c,.int .i64 u.cl,.slice A n P]] w (x7 u n w):=by
 have n4:n≤4:=by have:=hf.1;rw [hu.n_eq] at this;exact this
 obtain ⟨FU,HU⟩:=zh2 (fun m hm=>And.intro (hf.2 m hm) (h1 m hm)) (Old.now hu);obtain ⟨ms,ah⟩:∃ x,u.models=x:=⟨_,rfl⟩;obtain ⟨h0,hh⟩:∃ x,u.h=x:=⟨_,rfl⟩;obtain ⟨v0,hv⟩:∃ x,u.v=x:=⟨_,rfl⟩;obtain ⟨c0,hc⟩:∃ x,u.c=x:=⟨_,rfl⟩;obtain ⟨l0,hl⟩:∃ x,u.cl=x:=⟨_,rfl⟩;have HE:=zH (And.intro ah (And.intro hh (And.intro hv (And.intro hc hl))));rw [ah] at FU HU;rw [hh,hv,hc,hl];clear ah hh hv hc hl hf h1 hu;have H:=zW w;obtain ⟨w1,bh,B1,k1⟩:=nB w #[.int .i64 h0,.int .i64 v0,.int .i64 c0,.int .i64 l0,.slice A n P] 26;replace H:=zN k1 H B1;clear B1 k1;obtain ⟨V,br,B2,k2⟩:=nB w1 #[.int .i64 0,.int .i64 0,.int .i64 0,.int .i64 0,.slice none 0 0] 26;replace H:=zN k2 H B2;clear B2 k2;have l1:=zL bh;have l2:=zL br;have CM:=zH (fun q=>pS A n P ms V (blo V) (fun _ h=>h) q oM);have cA:=fun i=>H.o.1.2.cell i;go_in;go_wp2_with fail;refine (CM.o (HU.o.fut H.o.1.1.out).all).mono ?_;rintro e w3 ⟨v,rfl,ho,p⟩;have al:=ho.toB (Nat.le_of_ble_eq_true rfl);have bt:=zH p;clear ho cA CM;rcases al with ⟨-,q,-⟩|⟨g,gc,ax,rfl,hg,G⟩
 ·omega
 have H2:=H;clear H p bh br;go_wp2;go_loopw [13] (fun i wr=>∃ (k:Nat) (S:Nat → Nat → Prop) (D:Array Value),k≤n∧i=.int .i64 k∧dY bJ wr S g 54 n gc ms D∧(∀ j x,j < n → S j x → x < wr.heap.size∧x ≠ g∧(j < k → V.heap.size≤x))∧Below V V wr) (fun i _=>n - (intOf i).toNat)
 case atStart=>exact ⟨0,_,ax,zl _,rfl,G,fun j x t s=>⟨Nat.lt_of_lt_of_le (show x < V.heap.size from s) bt.out.size,fun e=>absurd (show x < V.heap.size from s) oM,fun h=>by omega⟩,bt.out⟩
 case round =>
  clear G;obtain ⟨k,S,D,hk,rfl,hO,E,R⟩:=hrel;obtain ⟨wo,bx⟩:∃ x,x=wr:=⟨_,rfl⟩;subst bx;obtain ⟨G,y⟩:=zh2 hO E;have H:=zF R H2;have zr:=R.size;have G2:=zH R;have bD:=hO.blk.lt;clear hO E R;by_cases l:k < n
  ·have p1:(k:Int) < (n:Int):=oM;have gi:IntKind.i64.wrap ((k:Int)+1)=((k+1:Nat):Int):=(wJ).trans sM;have bo:k < ms.length:=by rw [G.o.len];exact l
   have hd:ms[k]?=some ms[k]:=List.getElem?_eq_getElem bo;obtain ⟨m,hm⟩:∃ m,ms[k]=m:=⟨_,rfl⟩;rw [hm] at hd;obtain ⟨A',c',hc,hA⟩:=aZ.1 (G.o.at_ k m hd);have HC:=zH hc;rw [jV,Nat.mul_one] at HC;obtain ⟨⟨m8,fm⟩,m1,be⟩:=FU.o m (mG hd);have FM:=zH (fun b p=>And.intro (fm b p) (be b p));obtain ⟨z,ad⟩:∃ x,m.length=x:=⟨_,rfl⟩;rw [ad] at hA HC m8 m1;obtain ⟨HD,HA⟩:=zh2 hd hA;have RG:=zH (show wo.rangeAt g k [.slice A' z c'] from fun j v hv=>by
    rw [G.o.blk.cell,← Array.getElem?_toList];rw [← HC.o] at hv;exact nS hv)
   clear hd hm hc hA bo fm be
   go_wp2_with (first|(refine lM 54 (.tmp 16) RG.o underlying54 ?_)|(refine sF 54 (.tmp 5) (.tmp 17) #[.slice A' z c'] ?_;intro w5 b5 k5;have d:=zN k5 (zH (Far.refl wo)) b5;have cB:=fun i=>d.o.2.cell i;clear b5 k5))
   have z5:=d.o.1.size;refine (pR A' z c' m w5 (S k) (fun x s=>Nat.lt_of_lt_of_le (y.o k x l s).1 z5) (HA.o.below d.o.1.out fun x s=>(y.o k x l s).1) oM).mono ?_;rintro e w6 ⟨v,rfl,ho,p⟩;have al:=ho.toB (Nat.le_of_ble_eq_true rfl);have z6:=p.size;replace d:=zF p d;clear ho cB RG p;rcases al with ⟨-,q,-⟩|⟨Q,X,ay,rfl,bB,OI⟩
   ·omega
   have OC:=zH (And.intro G.o.size G.o.le);rw [jV,Nat.mul_one] at OC;have f0:k < D.size:=by rw [OC.o.1];have:=OC.o.2;omega
   obtain ⟨f,U⟩:∃ c:Array Value,c.toList=D.toList.take k ++ [.slice (some ⟨Q,0,none⟩) z X] ++ D.toList.drop (k+1):=⟨_,List.toList_toArray⟩;have f1:k < f.size:=by rw [← Array.length_toList,U,List.length_append,List.length_append,List.length_take,List.length_drop,Array.length_toList];simp;omega
   have e1:f[k]?=some (.slice (some ⟨Q,0,none⟩) z X):=by
    rw [← Array.getElem?_toList,U,List.getElem?_append_left (by rw [List.length_append,List.length_take,Array.length_toList];simp;omega),List.getElem?_append_right (by rw [List.length_take,Array.length_toList];omega),List.length_take,Array.length_toList,Nat.min_eq_left oM,Nat.sub_self];rfl
   obtain ⟨C1,E1⟩:=zh2 U e1;clear U f1 e1;have ac:=zH (G.o.fut d.o.1.out fun j x t a=>(y.o j x t a).1).blk;have F6:=zH (bm (r:=some g) d.o.1.out)
   go_wp2_with (first|(refine wpList_store_one rfl _ (.tmp 24) (.tmp 22) rfl g k (.slice (some ⟨Q,0,none⟩) z X) rfl rfl rfl rfl _ D f ac.o f0 kM C1.o ?_;intro w7 b7 N;have HM:=zA N (zH d.o.2);have cB:=fun i=>HM.o.cell i))
   go_loopw [28] (fun i wr=>∃ (q:Nat) (T:Nat → Nat → Prop) (C:Array Value),q≤z∧i=.int .i64 q∧dY eQ wr T Q 51 z X m C∧(∀ j x,j < z → T j x → x < wr.heap.size∧x ≠ g∧x ≠ Q∧(j < q → V.heap.size≤x))∧Blk wr g 54 f∧wo.grownBy wr (some g)) (fun i _=>z - (intOf i).toNat)
   case atStart=>exact ⟨0,_,ay,zl _,rfl,OI.away N oM (fun j x t s=>⟨Nat.lt_of_lt_of_le (y.o k x l s).1 oM,(y.o k x l s).2.1⟩),fun j x t s=>by have a:=y.o k x l s;have z7:=N.size;exact ⟨by omega,a.2.1,by omega,fun h=>by omega⟩,b7,F6.o.trans N⟩
   case round =>
    clear OI ac F6 d b7 N HM cB;obtain ⟨q,T,C,hq,rfl,hO,hT,b8,g8⟩:=hrel;obtain ⟨wi,bg⟩:∃ x,x=wr:=⟨_,rfl⟩;subst bg;obtain ⟨OI,Z,Y⟩:=zh3 hO hT (And.intro b8 g8);have z8:=g8.size;replace H:=zA g8 H;have bp:=hO.blk.lt;clear hO hT b8 g8;by_cases bn:q < z
    ·have p2:(q:Int) < (z:Int):=oM;have gq:IntKind.i64.wrap ((q:Int)+1)=((q+1:Nat):Int):=(wJ).trans sM;obtain ⟨KS,HB⟩:=zh2 (fun x (s:S k x)=>Nat.lt_of_lt_of_le (y.o k x l s).1 z8) (HA.o.keep fun x s=>Y.o.2.block x (y.o k x l s).1 (fun e=>(y.o k x l s).2.1 (sI e)));obtain ⟨b,ga,oa,L,nl,cl,W,nw,cw,B,nb,cb,p,rfl,bA,rg,F⟩:=HB.o.blk_at q bn;obtain ⟨bl,RG,AT⟩:=zh3 p rg F;have FB:=FM.o b (mG p);have CB:=zH (fun w q=>oO b L nl cl W nw cw B nb cb w q FB.1 (by rw [← F.nodes.n_eq];exact FB.2));clear p rg F HB
     go_upto_region 9 with (first|(refine lM 51 (.tmp 31) RG.o underlying51 ?_)|(refine sF 51 (.tmp 7) (.tmp 32) #[.slice L nl cl,.bool b.exit,.slice W nw cw,.slice B nb cb,.int .i32 b.head.need] ?_;intro w9 b9 k9;have d:=zN k9 (zH (Far.refl wi)) b9;clear b9 k9))
     replace d:=zD w9 d;have y9:=d.o.1.size;refine aP (fun w'=>w'.cell? ⟨g,k,none⟩=some (.slice (some ⟨Q,0,none⟩) z X)∧Blk w' wi.heap.size 51 #[.slice L nl cl,.bool b.exit,.slice W nw cw,.slice B nb cb,.int .i32 b.head.need]∧Below w9 w9 w') 8 kM ?_ (fun E=>?_)
     ·exact ⟨((Y.o.1.fut d.o.1.out).cell k).trans E1.o,d.o.2,(qB _ _).drew⟩
     refine kT' 0 E ?_;refine kT' 1 E ?_;refine kT' 2 E ?_;refine kT' 3 E ?_;refine kT' 4 E ?_;refine kT' 5 E ?_;refine tkT 6 rfl (yB 51 (.tmp 7) wi (fun w a=>a.2.1) underlying51) E ?_;try simp only [pX]
     refine rT 7 (fun K hK=>?_);go_simp;refine (CB.o _ (AT.o.keep (fun x s=>d.o.1.out.block x (KS.o x s)) (fun x s=>Nat.lt_of_lt_of_le (KS.o x s) d.o.1.size))).mono ?_;rintro e bH ⟨L2,c2,W2,d2,B2,f2,rfl,F,p⟩;have bd:=zH F;have bM:=p.size;replace d:=zF p d;clear F;refine xK hK (zR p E) fun E=>?_;clear hK K;refine wpAnyT_tail _ _ rfl rfl kM ?_;have O:=zH d.o.1.out;have z9:=O.o.size;clear E p d CB AT;have OJ:=zH (OI.o.fut O.o fun j x t a=>(Z.o j x t a).1);have OD:=zH (And.intro OJ.o.size OJ.o.le);rw [pO] at OD;have z2:(q+1)*5≤X*5:=Nat.mul_le_mul_right _ (by have:=OD.o.2;omega);have F0:=zH (show q*5+5≤C.size by rw [OD.o.1];omega);obtain ⟨I,ba⟩:∃ c:Array Value,c.toList=C.toList.take (q*5) ++ [.slice L2 nl c2,.bool b.exit,.slice W2 nw d2,.slice B2 nb f2,.int .i32 b.head.need] ++ C.toList.drop (q*5+5):=⟨_,List.toList_toArray⟩;have C2:=zH ba;clear ba
     go_wp2_with (refine wpList_store_blk rfl _ (.tmp 41) (.tmp 40) rfl Q (q*5) #[.slice L2 nl c2,.bool b.exit,.slice W2 nw d2,.slice B2 nb f2,.int .i32 b.head.need] rfl rfl _ C I OJ.o.blk F0.o kM (by rw [← Array.all_toList];rfl) C2.o ?_;intro bs bw J)
     have bz:=J.size;have M:dY eQ bs (fun j x=>(j ≠ q∧T j x) ∨ (j=q∧wi.heap.size≤x∧x < bs.heap.size)) Q 51 z X (m.set q b) I:=by
      refine OJ.o.put (o:=0) (ps:=[.slice L2 nl c2,.bool b.exit,.slice W2 nw d2,.slice B2 nb f2,.int .i32 b.head.need]) bn J bw (by rw [C2.o,pO];rfl) (Nat.le_of_ble_eq_true rfl) (fun j x t bb a=>⟨.inl ⟨bb,a⟩,Nat.lt_of_lt_of_le (Z.o j x t a).1 z9,(Z.o j x t a).2.2.1⟩) ?_;rw [pO,List.take_zero,List.nil_append,List.drop_of_length_le (by rw [List.length_take];exact Nat.min_le_left _ _),List.append_nil];exact vP (bd.o.keep (fun x s=>J.block x s.2 fun e=>by have:=sI e;have:=s.1;omega) fun x s=>.inr ⟨rfl,lT y9 s.1,Nat.lt_of_lt_of_le s.2 bz⟩)
     rw [uu bl.o] at M;refine ⟨⟨q+1,_,I,by omega,by go_num,M,?_,(Y.o.1.fut O.o).away J oM,yH (Y.o.2.trans (bm O.o)) J oM⟩,by simp [intOf];omega⟩;rintro j x t (⟨an,a⟩|⟨rfl,h1,h2⟩)
     ·have:=Z.o j x t a;exact ⟨by omega,this.2.1,this.2.2.1,fun h=>this.2.2.2 oM⟩
     ·exact ⟨h2,by omega,by omega,fun _=>by omega⟩
    ·obtain rfl:z=q:=oM;have p2:¬ (z:Int) < (z:Int):=oM;go_wp2_with fail;have M:dY bJ wi (fun j x=>(j ≠ k∧S j x) ∨ (j=k∧V.heap.size≤x∧x < wi.heap.size∧x ≠ g)) g 54 n gc (ms.set k m) f:=by
      refine G.o.put (o:=0) (ps:=[.slice (some ⟨Q,0,none⟩) z X]) l Y.o.2 Y.o.1 (by rw [C1.o,jV,Nat.mul_one];rfl) (Nat.le_of_ble_eq_true rfl) (fun j x t an a=>⟨.inl ⟨an,a⟩,(y.o j x t a).1,(y.o j x t a).2.1⟩) ?_;rw [jV,List.take_zero,List.nil_append,List.drop_of_length_le (by rw [List.length_take];exact Nat.min_le_left _ _),List.append_nil];rw [← ad];exact aZ.2 ⟨_,_,rfl,by rw [ad];exact OI.o.sl (.inr ⟨rfl,by omega,bp,by omega⟩) fun j x t a=>.inr ⟨rfl,(Z.o j x t a).2.2.2 t,(Z.o j x t a).1,(Z.o j x t a).2.1⟩⟩
     rw [uu HD.o] at M;refine ⟨⟨k+1,_,f,by omega,by go_num,M,?_,G2.o.grown Y.o.2 oM (fun x s=>by have:=sI s;omega)⟩,by simp [intOf];omega⟩;rintro j x t (⟨an,a⟩|⟨rfl,h1,h2,h3⟩)
     ·have:=y.o j x t a;exact ⟨by omega,this.2.1,fun h=>this.2.2 oM⟩
     ·exact ⟨h2,h3,fun _=>h1⟩
  ·obtain rfl:n=k:=oM;have p1:¬ (n:Int) < (n:Int):=oM
   go_wp2_with (first
    | (refine wpList_store_one rfl _ (.tmp 45) (.tmp 44) rfl w.heap.size 4 (.slice (some ⟨g,0,none⟩) n gc) rfl rfl rfl rfl _ _ #[.int .i64 h0,.int .i64 v0,.int .i64 c0,.int .i64 l0,.slice (some ⟨g,0,none⟩) n gc] H.o.1.2 sM kM rfl ?_;intro w5 b5 g5;have O5:=zH (G.o.away g5 oM fun j x t a=>⟨(y.o j x t a).1,by have:=(y.o j x t a).2.2 t;omega⟩);replace H:=zH (And.intro (And.intro (H.o.1.1.away g5 (lR _)) b5) (H.o.2.away g5 oM));have z5:=g5.size;clear b5 g5)
    | (refine lG H.o.1.2 ?_)
    | (refine sG #[.int .i64 h0,.int .i64 v0,.int .i64 c0,.int .i64 l0,.slice (some ⟨g,0,none⟩) n gc] H.o.2 ?_;intro w7 b7 N;have F7:=zA N (zH H.o.1.1);have O7:=zH (O5.o.away N oM fun j x t a=>⟨Nat.lt_of_lt_of_le (y.o j x t a).1 z5,by have:=(y.o j x t a).2.2 t;omega⟩);have z7:=N.size;clear N))
   refine ret_cell rfl b7 rfl underlying26 kM rfl ?_;refine ⟨some ⟨g,0,none⟩,gc,by rw [HE.o.2.1,HE.o.2.2.1,HE.o.2.2.2.1,HE.o.2.2.2.2],?_,F7.o.out⟩;rw [HE.o.1];refine O7.o.sl ⟨by omega,by omega⟩ fun j x t a=>⟨?_,?_⟩
   ·have:=(y.o j x t a).2.2 t;omega
   ·have:=(y.o j x t a).1;omega
end Go.Proofs.YtbecbfpoahhpnaaGreat
namespace Go.Proofs.YtbecbfpoahhpnaaGreat
open Tryz
open Go.RowKit Go.ChangeShapes Go.WideShapes Fx
attribute [local go_sem] Oper.semAt_some
theorem iz {t:Ty Int} {w:World} {S:Nat → Prop} {base n r:Nat} {E:TypeId} {v:Value} {l:List Int} {o:Obj} (h:Own t w S base E v n l) (a:w.heap[r]?=some o) (m:o.isCells=false):v.ownBlock ≠ some r:=by
 obtain ⟨vs,d,-⟩:=h.out;rcases d.2 with ⟨e,-⟩|⟨g,i,s,e,-,c,-⟩
 ·subst e;intro h;cases h
 ·subst e;intro h;injection h with h
  subst h;rw [c] at a;cases a;cases m
theorem Blk.noncells {w:World} {g r:Nat} {e:TypeId} {cs:Array Value} {o:Obj} (h:Blk w g e cs) (t:w.heap[r]?=some o) (a:o.isCells=false):g ≠ r:=by
 intro e;subst e;rw [h.heap] at t;cases t;cases a
theorem vC {P:Program} {o:Func} {a:Array Value} {w:World} {g:Nat} {e t:TypeId} {cs:Array Value} {i:Array Field} {p u:Tmp} (h:o.results=#[.cell p t,.tmp u]) (n:Blk w g e cs) (s:a.getD p undef=.pointer (some ⟨g,0,none⟩)) (r:P.underlying t=some (.struct i)) (hi:(P.info? t).map (·.size)=some cs.size) :
  (results o a).run P w=.ok (.tuple #[.agg cs,a.getD u undef]) w:=by
 rw [results_cell_tmp h,s,df,Result.andThen_ok,run_loadVar_row w g e t cs (0,0) (.struct i) n.heap r rfl hi,Result.andThen_ok]
theorem vf {B:Nat} {w w':World} (e:Below w w w'):KeepsFrom B w w':=⟨e.size,fun k o _ t _=>by
 have:=(Array.getElem?_eq_some_iff.1 t).1;rw [e.block k this];exact t⟩
theorem qR {B:Nat} {w w':World} {r:Option Nat} (a:w.grownBy w' r) (h:∀ (k:Nat) (o:Obj),r=some k → w.heap[k]?=some o → o.isCells=false → False):KeepsFrom B w w':=⟨a.size,fun k o _ t i=>by
 have:=(Array.getElem?_eq_some_iff.1 t).1;rw [a.block k this (fun e=>h k o e.symm t i)];exact t⟩
theorem wP (a b:ae) (A A':QA) (n N n' L:Nat) (d:af) (W:QA) (nw cw:Nat) (B:QA) (nb cb:Nat) (w:World) (ht:aw a) (hu:aw b) (hd:aQ d)
  (ha:xA w A n N a.data) (al:xA w A' n' L b.data) (c1:a.ok=true) :
  Calls prog 117 #[.agg (tN a.h a.v a.c A n N),.agg (tN b.h b.v b.c A' n' L),.agg (nN d.kind d.a d.b d.k d.s d.p d.out d.za d.zb W nw cw B nb cb d.qm d.qs d.qz d.rm d.rs d.rz d.lo d.hi)] w (aT .i8 (jg a b d).1 (jg a b d).2 w):=by
 obtain ⟨HA,HB,HD⟩:=zh3 ha al hd;obtain ⟨H,V,C,TK⟩:=fK c1;have bM:n≤1024:=by have:=TK.n_le;rw [ha.n_eq] at this;exact this
 have ah:decide (0 < ag a.h a.v a.c∧ag a.h a.v a.c=n)=true:=by rw [← HA.o.n_eq];simpa [ae.ok] using c1
 have RA:=zH (fun w=>av a.h a.v a.c A n N w ht.h ht.v ht.c (lT ha.cap_le ha.max_le));rw [ah] at RA;have RB:=zH (fun w=>av b.h b.v b.c A' n' L w hu.h hu.v hu.c (lT al.cap_le al.max_le));have ad:decide (0 < ag b.h b.v b.c∧ag b.h b.v b.c=n')=b.ok:=by unfold ae.ok;rw [HB.o.n_eq]
 rw [ad] at RB;have mx:n≤9223372036854775807:=oM;have QE:=zH (fun w=>ip w a.h a.v a.c b.h b.v b.c);have NN:=zH (show b.ok=true → ([a.h,a.v,a.c] == [b.h,b.v,b.c])=true → n'=n by
  intro h1 h2;simp only [List.cons_beq_cons,Bool.and_eq_true,beq_iff_eq,List.beq_nil_eq,and_true] at h2;have e1:a.h=b.h:=by simpa using h2.1
  have e2:a.v=b.v:=by simpa using h2.2.1
  have e3:a.c=b.c:=by simpa using h2.2.2.1
  rw [h1] at ad;simp only [decide_eq_true_eq] at ah ad;rw [e1,e2,e3] at ah
  omega)
 obtain ⟨Q,MY⟩:=zh2 (show jg a b d=if b.ok=false then (ak,5) else if ([a.h,a.v,a.c] == [b.h,b.v,b.c])=false then (ak,5) else if aD d.qm d.qs=false then (ak,7) else if aD d.rm d.rs=false then (ak,7) else (⟨a.h,a.v,a.c,(List.range n).map fun i=>dK d (a.data.getD i 0) (b.data.getD i 0)⟩,0) by unfold jg;rw [ha.n_eq]) (show kZ d=(aD d.qm d.qs && aD d.rm d.rs) from rfl);obtain ⟨x,hx⟩:∃ x,jg a b d=x:=⟨_,rfl⟩;rw [hx] at Q ⊢;have z:=zW w;obtain ⟨w1,w2,w3,w4,ay,ax,be,bt,l1,l2,l3,l4,F,G,J,I,bz⟩:=bk4 w (tN a.h a.v a.c A n N) 29 (tN b.h b.v b.c A' n' L) 29 (nN d.kind d.a d.b d.k d.s d.p d.out d.za d.zb W nw cw B nb cb d.qm d.qs d.qz d.rm d.rs d.rz d.lo d.hi) 84 (tN 0 0 0 none 0 0) 29;replace z:=zF bz z;clear bz;obtain ⟨ok,bg⟩:∃ q,b.ok=q:=⟨_,rfl⟩;obtain ⟨sm,bx⟩:∃ q,([a.h,a.v,a.c] == [b.h,b.v,b.c])=q:=⟨_,rfl⟩;obtain ⟨k1,bp⟩:∃ q,aD d.qm d.qs=q:=⟨_,rfl⟩;obtain ⟨k2,bb⟩:∃ q,aD d.rm d.rs=q:=⟨_,rfl⟩;rw [bg] at RB Q NN;rw [bx] at QE Q NN;rw [bp] at Q MY;rw [bb] at Q MY;have MM:=zH (fun w=>mX d W nw cw B nb cb w);obtain ⟨mv,bs⟩:∃ q,kZ d=q:=⟨_,rfl⟩;have bB:=zH bs;rw [bs] at MM MY;clear bs ht hu hd ha al c1 ah ad TK hx bg bx bp bb;by_cases q1:ok=false
 ·subst q1;rw [if_pos rfl] at Q;rw [Q.o];go_in
  go_wp2_with (first|(refine lG F.o ?_)|(go_at_call 58;with_reducible refine (RA.o _).mono ?_;rintro e w5 ⟨rfl,f⟩;have l5:=f.size;obtain ⟨z,F,G,J,I⟩:=uz5 f z F G J I;clear f ay ax be bt;obtain ⟨T,U,Y,b3⟩:=uc4 G 0 1 2 3)|(go_at_call 58;with_reducible refine (RB.o _).mono ?_;rintro e w6 ⟨rfl,f⟩;have l6:=f.size;obtain ⟨z,F,G,J,I⟩:=uz5 f z F G J I;clear f T U Y b3;obtain ⟨a0,a1,a2⟩:=uc3 F 0 1 2;obtain ⟨T,U,Y⟩:=uc3 G 0 1 2)|(refine sG (tN 0 0 0 none 0 0) I.o ?_;intro M By R))
  refine rG By ?_;exact aT.none (z.o.away R oM).out
 rw [Bool.not_eq_false] at q1;subst q1;rw [if_neg dM] at Q;by_cases q2:sm=false
 ·subst q2;rw [if_pos rfl] at Q;rw [Q.o];go_in
  go_wp2_with (first|(refine lG F.o ?_)|(go_at_call 58;with_reducible refine (RA.o _).mono ?_;rintro e w5 ⟨rfl,f⟩;have l5:=f.size;obtain ⟨z,F,G,J,I⟩:=uz5 f z F G J I;clear f ay ax be bt;obtain ⟨T,U,Y,b3⟩:=uc4 G 0 1 2 3)|(go_at_call 58;with_reducible refine (RB.o _).mono ?_;rintro e w6 ⟨rfl,f⟩;have l6:=f.size;obtain ⟨z,F,G,J,I⟩:=uz5 f z F G J I;clear f T U Y b3;obtain ⟨a0,a1,a2⟩:=uc3 F 0 1 2;obtain ⟨T,U,Y⟩:=uc3 G 0 1 2)|(refine dJ 23 _ (.tmp 22) (.tmp 24) rfl _ _ rfl rfl (by rfl) kM _ (QE.o _) ?_;try simp only [Bool.not_true,Bool.not_false])|(refine sG (tN 0 0 0 none 0 0) I.o ?_;intro M By R))
  refine rG By ?_;exact aT.none (z.o.away R oM).out
 rw [Bool.not_eq_false] at q2;subst q2;rw [if_neg dM] at Q;by_cases q3:mv=false
 ·subst q3;have hq:x=(ak,7):=by
   rw [Q.o];have:=MY.o;cases k1 <;> cases k2 <;> first|rfl|(simp at this)
  rw [hq];go_in
  go_wp2_with (first|(refine lG F.o ?_)|(go_at_call 58;with_reducible refine (RA.o _).mono ?_;rintro e w5 ⟨rfl,f⟩;have l5:=f.size;obtain ⟨z,F,G,J,I⟩:=uz5 f z F G J I;clear f ay ax be bt;obtain ⟨T,U,Y,b3⟩:=uc4 G 0 1 2 3)|(go_at_call 58;with_reducible refine (RB.o _).mono ?_;rintro e w6 ⟨rfl,f⟩;have l6:=f.size;obtain ⟨z,F,G,J,I⟩:=uz5 f z F G J I;clear f T U Y b3;obtain ⟨a0,a1,a2⟩:=uc3 F 0 1 2;obtain ⟨T,U,Y⟩:=uc3 G 0 1 2)|(refine dJ 23 _ (.tmp 22) (.tmp 24) rfl _ _ rfl rfl (by rfl) kM _ (QE.o _) ?_;try simp only [Bool.not_true,Bool.not_false])|(refine lG J.o ?_)|(go_at_call 152;with_reducible refine (MM.o _).mono ?_;rintro e w7 ⟨rfl,f⟩;have l7:=f.size;obtain ⟨z,F,G,J,I⟩:=uz5 f z F G J I;clear f a0 a1 a2 T U Y)|(refine sG (tN 0 0 0 none 0 0) I.o ?_;intro M By R))
  refine rG By ?_;exact aT.none (z.o.away R oM).out
 rw [Bool.not_eq_false] at q3;subst q3;have hq:x=(⟨a.h,a.v,a.c,(List.range n).map (fun i=>dK d (a.data.getD i 0) (b.data.getD i 0))⟩,0):=by
  rw [Q.o];have:=MY.o;cases k1 <;> cases k2 <;> first|rfl|(simp at this)
 rw [hq];obtain rfl:n=n':=(NN.o rfl rfl).symm;have OV:=zH (fun x y (h:InK .i8 x) (h':InK .i8 y) w=>ko x y d W nw cw B nb cb w h h' HD.o bB.o);clear hq Q MY NN;refine (callsIn_wide (n:=6)).1 ?_;refine callsIn_of_wp_marks func117 rfl trivial ?_ rfl;simp only [ntmps117,List.size_toArray,List.length_cons,List.length_nil,Nat.reduceAdd,Nat.reduceSub,Array.replicate_succ,Array.replicate_zero,List.push_toArray,List.append_toArray,List.nil_append,List.cons_append];rw [wpIn_wide]
 go_wp2_with (first|(refine lG F.o ?_)|(go_at_call 58;with_reducible refine (RA.o _).mono ?_;rintro e w5 ⟨rfl,f⟩;have l5:=f.size;obtain ⟨z,F,G,J,I⟩:=uz5 f z F G J I;clear f ay ax be bt;obtain ⟨T,U,Y,b3⟩:=uc4 G 0 1 2 3)|(go_at_call 58;with_reducible refine (RB.o _).mono ?_;rintro e w6 ⟨rfl,f⟩;have l6:=f.size;obtain ⟨z,F,G,J,I⟩:=uz5 f z F G J I;clear f T U Y b3;obtain ⟨a0,a1,a2⟩:=uc3 F 0 1 2;obtain ⟨T,U,Y⟩:=uc3 G 0 1 2)|(refine dJ 23 _ (.tmp 22) (.tmp 24) rfl _ _ rfl rfl (by rfl) kM _ (QE.o _) ?_;try simp only [Bool.not_true,Bool.not_false])|(refine lG J.o ?_)|(go_at_call 152;with_reducible refine (MM.o _).mono ?_;rintro e w7 ⟨rfl,f⟩;have l7:=f.size;obtain ⟨z,F,G,J,I⟩:=uz5 f z F G J I;clear f a0 a1 a2 T U Y;obtain ⟨w8,ba⟩:∃ x,w7.alloc (.cells (tN 0 0 0 none 0 0) 29)=x:=⟨_,rfl⟩;have f:Below w7 w7 w8:=(by rw [← ba];exact (qB _ _).alloc (lR _) _);have BG:=zH (show Blk w8 w7.heap.size 29 (tN 0 0 0 none 0 0) by rw [← ba];exact Blk.now _ _ _ _ rfl);have bh:=zH F.o;obtain ⟨z,F,G,J,I⟩:=uz5 f z F G J I;clear f)|(refine lP 23 (sN a.h a.v a.c) bh.o ?_)|(refine sG (tN a.h a.v a.c none 0 0) BG.o ?_;intro M By R;have ca:=(F.o.away R (.inl oM)).cell 3;have bl:=(G.o.away R (.inl oM)).cell 3;simp only [gX] at ca bl)|(go_at_call 153;refine qM (zj A A' n N n L _) fun S P=>?_;have bd:=zH P;clear P))
 have l9:w8.heap.size=w7.heap.size+1:=by rw [← ba];simp
 clear ba bh BG;replace z:=zA R z;replace F:=zA R F;replace G:=zA R G;replace J:=zA R J;replace I:=zA R I;have BG:=zH By;have bT:=By.lt;clear By R;have P:=bd.o;have f:Below M M S:=by rw [P];exact ((qB _ _).alloc (lR _) _).alloc sM _
 have P1:Blk S M.heap.size 27 #[.slice A n N]:=by rw [P];exact (Blk.now _ _ _ _ rfl).past _
 have P2:Blk S (M.heap.size+1) 27 #[.slice A' n L]:=by rw [P];exact Blk.now _ _ _ _ sM
 have lp:S.heap.size=M.heap.size+2:=by rw [P];simp
 clear bd P ca bl;obtain ⟨z,F,G,J,I,BG⟩:=uz6 f z F G J I BG;clear f;have lw:w.heap.size≤S.heap.size:=z.o.size;have O:∀ k,(k < w.heap.size ∨ k=M.heap.size ∨ k=M.heap.size+1) → k < S.heap.size:=fun k h=>by omega
 have sA:=((Old.now HA.o).fut z.u).out.more (S':=fun k=>k < w.heap.size ∨ k=M.heap.size ∨ k=M.heap.size+1) (fun b h=>Or.inl h);have sB:=((Old.now HB.o).fut z.u).out.more (S':=fun k=>k < w.heap.size ∨ k=M.heap.size ∨ k=M.heap.size+1) (fun b h=>Or.inl h);have bw:=zH O;have PS:=tX (fun k=>k < w.heap.size ∨ k=M.heap.size ∨ k=M.heap.size+1) A A' n N L a.data b.data M.heap.size (M.heap.size+1) 5 S sA sB bM P1 P2 ⟨.inr (.inl rfl),.inr (.inr rfl)⟩ O dM;have XE:=zH (show ((List.range n).map (sC a.data b.data sA.allK sB.allK)).map (fun p=>dK d p.1.1 p.2.1)=(List.range n).map (fun i=>dK d (a.data.getD i 0) (b.data.getD i 0)) by rw [List.map_map];rfl);rw [← wpIn_wide (n:=6)];refine wpIn_rangeFunc_ownG rfl dM (gf:=185) (lb:=#[.pointer (some ⟨M.heap.size,0,none⟩),.pointer (some ⟨M.heap.size+1,0,none⟩)]) rfl trivial (enters_of func185 kM rfl)
  PS (fun h k=>h.trans k) (fun X l o o' h1 h2 h3 h4=>eJ.put O X l o o' h1 h2 h3 h4) (qB _ _) (fun _=>rfl)
  (fun pre X=>(Blk X w2.heap.size 84 (nN d.kind d.a d.b d.k d.s d.p d.out d.za d.zb W nw cw B nb cb d.qm d.qs d.qz d.rm d.rs d.rz d.lo d.hi)∧Blk X w3.heap.size 29 (tN 0 0 0 none 0 0)∧∃ u,Blk X w7.heap.size 29 #[.int .i64 a.h,.int .i64 a.v,.int .i64 a.c,u]∧Own (ab .i8) X (fun _=>False) S.heap.size 80 u pre.length (pre.map fun p=>dK d p.1.1 p.2.1))∧Below w w X∧S.heap.size≤X.heap.size) (fun _ _ _=>False) ?hI (fun _ _ _ _ _ hs _ _=>hs) ⟨⟨J.o,I.o,_,BG.o,Own.nil _ _ _ _ _⟩,z.u,lR _⟩ (fun x=>{ tmps:=#[.agg (tN a.h a.v a.c A n N),.agg (tN b.h b.v b.c A' n L),.agg (nN d.kind d.a d.b d.k d.s d.p d.out d.za d.zb W nw cw B nb cb d.qm d.qs d.qz d.rm d.rs d.rz d.lo d.hi),.pointer (some ⟨w.heap.size,0,none⟩),.pointer (some ⟨w1.heap.size,0,none⟩),.pointer (some ⟨w2.heap.size,0,none⟩),.pointer (some ⟨w3.heap.size,0,none⟩),.int .i64 0,.pointer (some ⟨w7.heap.size,0,none⟩),.int .i8 x.1.1,.int .i8 x.2.1,.bool false,.agg (tN a.h a.v a.c A n N),.bool true,.bool false,.bool false,.agg (tN b.h b.v b.c A' n L),.bool true,.bool false,.bool false,.bool false,.pointer (some ⟨w.heap.size,0,none⟩),.agg (sN a.h a.v a.c),.pointer (some ⟨w1.heap.size,0,none⟩),.agg (sN b.h b.v b.c),.bool false,.bool false,undef,.bool false,.agg (nN d.kind d.a d.b d.k d.s d.p d.out d.za d.zb W nw cw B nb cb d.qm d.qs d.qz d.rm d.rs d.rz d.lo d.hi),.bool true,.bool false,undef,.pointer (some ⟨w.heap.size,0,none⟩),.agg (sN a.h a.v a.c),.agg (tN a.h a.v a.c none 0 0),.pointer (some ⟨w.heap.size,3,none⟩),.slice A n N,.pointer (some ⟨w1.heap.size,3,none⟩),.slice A' n L,.func (.func 185) #[] #[.pointer (some ⟨M.heap.size,0,none⟩),.pointer (some ⟨M.heap.size+1,0,none⟩)],.int .i8 x.1.1,.int .i8 x.2.1,undef,undef,undef,undef,undef,undef,undef,undef,undef,undef],defers:=[] }) ?assign ?body ?done ?stop
 case hI =>
  rintro pre X X' row ⟨⟨i1,i2,u,i3,i4⟩,i5,i6⟩ hg hr;have nb:∀ g (e:TypeId) (cs:Array Value),Blk X g e cs → some g ≠ row:=fun g e cs h eq=>by
   obtain ⟨-,o,ho,hc⟩:=hr g eq.symm;exact h.noncells ho hc rfl
  refine ⟨⟨i1.rowR hg (nb _ _ _ i1),i2.rowR hg (nb _ _ _ i2),u,i3.rowR hg (nb _ _ _ i3),i4.flat hg ?_ (fun _ h=>h)⟩,i5.grown hg i5.size (fun k e=>lT lw (hr k e).1),lT i6 hg.size⟩;by_cases h:u.ownBlock=row
  ·cases row with
   | none=>exact .inl h
   | some r =>
    obtain ⟨-,o,ho,hc⟩:=hr r rfl;exact absurd h (iz i4 ho hc)
  ·exact .inr h
 case assign =>
  intro l x X K Z;simp only [e88]
  gi_wp2
  exact Z
 case body =>
  rintro l pre x Wr ⟨⟨i1,i2,u,i3,i4⟩,i5,i6⟩ bH;obtain ⟨k,hk⟩:∃ k,pre.length=k:=⟨_,rfl⟩;obtain ⟨PL,bn⟩:∃ q,(pre.map fun p=>dK d p.1.1 p.2.1)=q:=⟨_,rfl⟩;rw [hk,bn] at i4;rw [hk] at bH;obtain ⟨J,I,BG,ON,z,br,CX⟩:=zh7 i1 i2 i3 i4 (show Far w Wr from ⟨i5⟩) (And.intro hk bn) (OV.o x.1.1 x.2.1 x.1.2 x.2.2);obtain ⟨v,hv⟩:∃ v,dK d x.1.1 x.2.1=v:=⟨_,rfl⟩;have RE:=zH (show InK .i8 v by rw [← hv];exact nV d _ _);rw [hv] at CX;have HV:=zH hv;have bR:=i3.lt;clear i1 i2 i3 i4 i5 hk bn hv;refine wpIn_block ?_;have OD:=zH (ON.o.heap (w':=Wr.drew) rfl);have fd:Below w w Wr.drew:=z.u.drew;obtain ⟨nu,ac⟩:=zh2 (show ∀ b,b < S.heap.size → some b ≠ u.ownBlock from fun b f e=>absurd (ON.o.lt b e.symm).1 oM) (show S.heap.size≤Wr.heap.size from i6);refine uL (fun w'=>w'.cell? ⟨w7.heap.size,3,none⟩=some u∧Blk w' w2.heap.size 84 (nN d.kind d.a d.b d.k d.s d.p d.out d.za d.zb W nw cw B nb cb d.qm d.qs d.qz d.rm d.rs d.rz d.lo d.hi)∧Below w w w') 8 kM kM (by rintro ⟨_,_,h⟩;exact h) ?_ (fun O=>?_)
  ·exact ⟨BG.o.drew.cell 3,J.o.drew,fd⟩
  refine kT' 0 O ?_;refine kT' 1 O ?_;refine kT' 2 O ?_;refine kT' 3 O ?_;refine tkT 4 rfl (yP (nN d.kind d.a d.b d.k d.s d.p d.out d.za d.zb W nw cw B nb cb d.qm d.qs d.qz d.rm d.rs d.rz d.lo d.hi) (fun w hs=>hs.2.1)) O ?_;try simp only [pX]
  refine rT 5 (fun K Z=>?_);go_simp;refine qM (CX.o _) fun wa f=>?_;have KW:=zH (az (show Below Wr.heap.size Wr Wr.drew from (qB _ _).drew) f (lR _));have OA:=zH (OD.o.below f (lR _) (fun _ h=>h.elim));have za:S.heap.size≤wa.heap.size:=lT ac.out f.size;have XX:=zH (And.intro (J.o.drew.later f) (And.intro (I.o.drew.later f) (BG.o.drew.later f)));have FA:=zH (az fd f fd.size);refine xK Z (zR f O) fun O=>?_;clear Z K;refine rT 6 (fun K Z=>?_);go_simp;have f:Below wa wa (wa.alloc (.cells #[.int .i8 v] 80)):=(qB _ _).alloc (lR _) _;refine xK Z (zR f O) fun O=>?_;clear Z K;refine rT 7 (fun K Z=>?_)
  (rw [if_pos (by rfl)];refine iT (W:=wa) (cs:=#[.int .i8 v]) (E:=80) (t:=ab .i8) (.tmp 44) (.tmp 49) rfl jc rfl OA.o 1 rfl v ⟨rfl,RE.o⟩ mL oM za (fun _ h=>h.elim) ?_;intro u' wb an g7 bD;have B7:=zH (XX.o.2.2.rowR g7 (nu.out _ oM));refine Z.out _ _ ⟨B7.o.cell 3,XX.o.1.rowR g7 (nu.out _ oM),FA.o.grown g7 FA.o.size (fun j hj=>lT oM (OA.o.lt j hj).1)⟩ (fun O=>?_))
  clear Z K;try simp only [pX]
  refine wpAnyT_tail _ _ rfl rfl kM ?_;have FZ:=O.2.2;obtain ⟨XN,XR⟩:=zh2 O.2.1 (XX.o.2.1.rowR g7 (nu.out _ oM));have NU:=zH (show u'.ownBlock=none ∨ u'.ownBlock ≠ some w7.heap.size by
   cases hu:u'.ownBlock with
   | none=>exact .inl rfl
   | some m=>right;intro e;have:=(an.lt m hu).1;have:=sI e;omega)
  obtain ⟨A7,c7,rfl,-⟩:=an.sl (S':=fun _=>True) dM (fun _ _ _=>trivial) (fun _ _=>trivial);have K7:KeepsFrom S.heap.size Wr wb:=(vf KW.o).trans (qR g7 (fun k o e hk ho=>iz OA.o hk ho e));have S7:eJ (fun k=>k < w.heap.size ∨ k=M.heap.size ∨ k=M.heap.size+1) Wr wb:=⟨lT KW.o.size g7.size,fun k hk=>by
   have h1:=bw.out k hk;have h2:=KW.o.size;have h3:=ac.out;rw [g7.block k oM (nu.out k oM),KW.o.block k oM]⟩
  clear O f bD
  go_wp2_with (refine wpList_store_one rfl 27 (.tmp 51) (.tmp 50) rfl w7.heap.size 3 (.slice A7 (k+1) c7) rfl rfl rfl rfl _ #[.int .i64 a.h,.int .i64 a.v,.int .i64 a.c,u] (tN a.h a.v a.c A7 (k+1) c7) B7.o sM kM rfl ?_;intro bN B8 g8)
  have O8:=an.flat g8 (by rcases NU.o with e|e;exact .inl e;exact .inr e) (fun _ h=>h);have F8:=(show Far w wb from ⟨FZ⟩).away g8 oM;have K8:=K7.trans (qR (B:=S.heap.size) g8 (fun k o e hk ho=>by injection e with e;subst e;exact B7.o.noncells hk ho rfl));have S8:eJ (fun k=>k < w.heap.size ∨ k=M.heap.size ∨ k=M.heap.size+1) Wr bN:=S7.trans ⟨g8.size,fun k hk=>by
   have h1:=bw.out k hk;have h2:=B7.o.lt;have h4:=S7.size;have h3:=ac.out;exact g8.block k oM (fun e=>by injection e with e;omega)⟩
  refine ⟨K8,S8,⟨XN.o.away g8 (.inl oM),XR.o.away g8 (.inl oM),_,B8,?_⟩,F8.out,by have:=S8.size;have:=ac.out;omega⟩;rw [List.length_append,List.map_append,br.o.1,br.o.2];show Own _ _ _ _ _ _ _ (PL ++ [dK d x.1.1 x.2.1]);rw [HV.o];exact O8
 case done =>
  rintro D ys X hD rfl ⟨⟨i1,i2,u,i3,i4⟩,i5,i6⟩ Z;have e1:((List.range n).map (sC a.data b.data sA.allK sB.allK)).length=n:=by simp
  rw [e1,XE.o] at i4;obtain ⟨FL,bo⟩:∃ q,(List.range n).map (fun i=>dK d (a.data.getD i 0) (b.data.getD i 0))=q:=⟨_,rfl⟩;rw [bo] at i4;obtain ⟨bA,I,BG,ON,z,DK⟩:=zh6 bo i2 i3 i4 (show Far w X from ⟨i5⟩) (And.intro Z hD);obtain ⟨A9,c9,rfl,-⟩:=ON.o.sl (S':=fun _=>True) dM (fun _ _ _=>trivial) (fun _ _=>trivial);clear i1 i2 i3 i4 i5 Z hD e1 PS XE sA sB bo P1 P2
  go_step
  go_wp2_with (first|(refine lG BG.o ?_)|(refine sG (tN a.h a.v a.c A9 n c9) I.o ?_;intro w9 B9 g9))
  have bc:w9.heap[D]?=some (.deferred (some [])):=by rw [g9.block D (Array.getElem?_eq_some_iff.1 DK.o.1).1 (fun e=>by have:=DK.o.2;injection e with e;omega)];exact DK.o.1
  refine ⟨by simp,.inl ⟨_,_,rfl,run_takeDeferred bc,?_⟩⟩;have bO:=DK.o.2;have gp:=grownBy_putObj' w9 D (.deferred none);have e2:=(ON.o.flat g9 (by
   cases hu:(Value.slice A9 n c9).ownBlock with
   | none=>exact .inl rfl
   | some m=>right;intro e;have:=(ON.o.lt m hu).1;have:=sI e;omega) (fun _ h=>h))
  have e3:=e2.flat gp (.inr (iz e2 bc rfl)) (fun _ h=>h);have B3:=B9.rowR gp (fun e=>by injection e with e;omega);have F9:=z.o.away g9 oM;have F3:=F9.out.grown gp F9.size (fun k e=>by injection e with e;omega);obtain ⟨A2,c2,hv,s⟩:=e3.sl (S':=bin w.heap.size _) dM (fun b h1 h2=>⟨by omega,h2⟩) (fun b h=>h.elim);injection hv with hv1 hv2 hv3
  subst hv1 hv3;refine ⟨_,vC rfl B3 rfl underlying29 kM,_,_,_,rfl,?_,F3⟩;rw [bA.o];exact s
 case stop =>
  rintro D c pre W _ _ h _;exact h.elim
end Go.Proofs.YtbecbfpoahhpnaaGreat
