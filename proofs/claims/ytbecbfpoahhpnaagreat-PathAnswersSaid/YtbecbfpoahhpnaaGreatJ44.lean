/- The values of a block have the shapes that were told (layer 29), as plain lists. -/
import Derived.Test.YtbecbfpoahhpnaaGreatJ43
import Derived.Test.YtbecbfpoahhpnaaGreatJ41
set_option linter.unusedVariables false
set_option linter.unusedSimpArgs false
set_option maxRecDepth 100000
set_option maxHeartbeats 16000000
namespace Go.Proofs.YtbecbfpoahhpnaaGreat
open Go Go.Proofs.YtbecbfpoahhpnaaGreat.Ar Tryz
abbrev hvc (t:ae):Sh3:=(t.h,t.v,t.c)
theorem mh {l:List af} {s:Sh3} {k:Nat} {sl:List Sh3} (h:bS l s (k+1)=.on sl):∃ o,bS l s k=.on o∧(bP (l.getD k aM) o).2=0∧sl=o ++ [(bP (l.getD k aM) o).1]:=by
 have h:(match bS l s k with|.on out=>if (bP (l.getD k aM) out).2 ≠ 0 then Run.bad k (bP (l.getD k aM) out).2 else .on (out ++ [(bP (l.getD k aM) out).1])|.bad i e=>.bad i e)=.on sl:=h;cases t:bS l s k with
 | bad i e=>rw [t] at h;cases h
 | on o =>
  rw [t] at h;simp only at h;by_cases c:(bP (l.getD k aM) o).2=0
  ·rw [if_neg (by simpa using c)] at h;injection h with h
   exact ⟨o,rfl,c,h.symm⟩
  ·rw [if_pos c] at h;cases h
theorem jL {l:List af} {s:Sh3} {n:Nat}:∀ {sl:List Sh3},bS l s n=.on sl → ∀ k,k≤n → bS l s k=.on (sl.take (k+1)):=by
 induction n with
 | zero =>
  intro sl h k i;obtain rfl:k=0:=oM;have t:=(gO _ h).len;rw [h,List.take_of_length_le oM]
 | succ n ih =>
  intro sl h k i;obtain ⟨o,t,-,a⟩:=mh h;have r:=(gO _ t).len;by_cases e:k=n+1
  ·subst e;rw [h,List.take_of_length_le (by rw [(gO _ h).len];exact lR _)]
  ·rw [ih t k oM,a,List.take_append_of_le_length oM]
structure jy (out:List ae) (sl:List Sh3) (k:Nat):Prop where
 len:out.length=k+1
 ok:∀ j,j≤k → (out.getD j ak).ok=true
 sh:∀ j,j≤k → sl.getD j (0,0,0)=hvc (out.getD j ak)
theorem pI {l:List af} {x:ae} {n:Nat} {sl:List Sh3} (h:bS l (hvc x) n=.on sl) (i:x.ok=true):jy [x] sl 0:=by
 have e:=jL h 0 (zl _);have e:Run.on [hvc x]=.on (sl.take 1):=e;injection e with e
 refine ⟨rfl,fun j o=>?_,fun j o=>?_⟩
 ·obtain rfl:j=0:=oM;exact i
 ·obtain rfl:j=0:=oM;cases sl with
  | nil=>cases e
  | cons a t=>injection e with h1 h2;exact h1.symm
theorem iY {sl:List Sh3} {k j:Nat} (h:j≤k):(sl.take (k+1)).getD j (0,0,0)=sl.getD j (0,0,0):=by
 rw [gD,List.getElem?_take,if_pos oM,← gD]
theorem rD {l:List af} {s:Sh3} {n k:Nat} {sl:List Sh3} {out:List ae} {d:af} (h:bS l s n=.on sl) (J:k < n) (i:jy out sl k) (B:l[k]?=some d) (w:(dL d out).2=0):jy (out ++ [(dL d out).1]) sl (k+1):=by
 have e:l.getD k aM=d:=by rw [gD,B];rfl
 have A:=jL h (k+1) oM;obtain ⟨o,c,t,z⟩:=mh A;have C:=jL h k oM;rw [C] at c;injection c with c
 subst c;rw [e] at t z;have g:=iI t;have K:=(gO _ h).len;rw [List.length_take,Nat.min_eq_left oM] at g;obtain ⟨F,G,H,I⟩:=fJ g;have y:d.a.toNat≤k:=oM;have p:(ar d).toNat≤k:=oM;have E:(bP d (sl.take (k+1))).1=hvc (dL d out).1:=by
  unfold bP at t ⊢;by_cases m:bu d ≠ 0
  ·rw [if_pos m] at t;exact absurd t m
  rw [if_neg m] at t ⊢;by_cases v:bi d (sl.take (k+1)).length=false
  ·rw [if_pos v] at t;cases t
  rw [if_neg v] at t ⊢;rw [iY y,iY p,i.sh _ y,i.sh _ p];unfold dL at w ⊢;have:=(pe (x:=(fA d (out.getD d.a.toNat ak) (out.getD (ar d).toNat ak)).1) (by rw [← w])).1;unfold hvc;rw [this]
 have D:sl.getD (k+1) (0,0,0)=hvc (dL d out).1:=by
  rw [← iY (sl:=sl) (lR (k+1)),z,E,gD,List.getElem?_append_right (by rw [List.length_take];omega),List.length_take,Nat.min_eq_left oM,Nat.sub_self];rfl
 have q:=i.len;have r:(out ++ [(dL d out).1]).getD (k+1) ak=(dL d out).1:=by
  rw [gD,List.getElem?_append_right oM,q,Nat.sub_self];rfl
 have old:∀ j,j≤k → (out ++ [(dL d out).1]).getD j ak=out.getD j ak:=fun j b=>by
  rw [gD,List.getElem?_append_left oM,← gD]
 refine ⟨by rw [List.length_append,q];rfl,fun j b=>?_,fun j b=>?_⟩
 ·by_cases f:j=k+1
  ·subst f;rw [r];exact Bp w
  ·rw [old j oM];exact i.ok j oM
 ·by_cases f:j=k+1
  ·subst f;rw [r];exact D
  ·rw [old j oM];exact i.sh j oM
theorem pE {l:List af} {s:Sh3} {sl:List Sh3} {p:Int} (h:ao l s=(sl,p,0)):bS l s l.length=.on sl:=by
 unfold ao at h;by_cases a:ag s.1 s.2.1 s.2.2=0
 ·rw [if_pos a] at h;simp at h
 rw [if_neg a] at h;by_cases n:l.length=0
 ·rw [if_pos n] at h;simp at h
 rw [if_neg n] at h;by_cases r:8 < l.length
 ·rw [if_pos r] at h;simp at h
 rw [if_neg r] at h;cases t:bS l s l.length with
 | bad i e=>rw [t] at h;have c:e=0:=congrArg (fun z=>z.2.2) h;exact absurd c (jK _ t)
 | on o=>rw [t] at h;have d:o=sl:=congrArg (fun z=>z.1) h;rw [d]
theorem kE {t:ae} (h:t.ok=true):ag t.h t.v t.c=(t.data.length:Int)∧1≤t.data.length:=by
 unfold ae.ok at h;have h:=of_decide_eq_true h;omega
theorem kK {out:List ae} {sl:List Sh3} {k j:Nat} (h:jy out sl k) (e:j≤k) (t:j < sl.length):szV sl j=(out.getD j ak).data.length:=by
 unfold szV;rw [lC sl j t,h.sh j e];have:=(kE (h.ok j e)).1;unfold hvc;simp only;omega
def wK (l:List af):DE → ae × Int × Int
 | .on out=>(out.getD l.length ak,(l.length:Int),0)
 | .bad i e=>(ak,(i:Int),e)
theorem Ca {l:List af} {x:ae} {sl:List Sh3} {o:List Int} {sz p t:Int} (r:x.ok=true) (h:iJ l (hvc x)=((sl,o,sz),p,t)) :
  (t ≠ 0 → eL l x=(ak,p,t)∧sl=[]∧o=[])∧(t=0 → bS l (hvc x) l.length=.on sl∧eH l (hvc x) sl p∧o=atTo (aJ sl) (a8 l) (l.length+1)∧sz=roomTo (aJ sl) (a8 l) (l.length+1)∧eL l x=wK l (fW l x l.length)):=by
 obtain ⟨⟨m,d,i⟩,a⟩:∃ s,ao l (hvc x)=s:=⟨_,rfl⟩;have n:eL l x=if ¬ i=0 then (ak,d,i) else wK l (fW l x l.length):=by
  unfold eL;rw [if_neg (by rw [r];decide),a];simp only;cases fW l x l.length <;> rfl
 by_cases c:i=0
 ·subst c;rw [BU a] at h;cases h;refine ⟨fun c=>absurd rfl c,fun _=>⟨pE a,?_,rfl,rfl,by rw [n,if_neg dM]⟩⟩;have:=ly a;rw [this.at_] at this;exact this
 ·rw [zu a c] at h;cases h;exact ⟨fun _=>⟨by rw [n,if_pos c],rfl,rfl⟩,fun e=>absurd e c⟩
theorem BI {l:List af} {s:Sh3} {sl:List Sh3} {p:Int} (h:eH l s sl p) (v:Nat) (t:v≤l.length):(atTo (aJ sl) (a8 l) (l.length+1)).getD v 0=(atV l sl v:Int)∧ag (sl.getD v (0,0,0)).1 (sl.getD v (0,0,0)).2.1 (sl.getD v (0,0,0)).2.2=(szV sl v:Int):=by
 have a:=mN h v t;have o:=fF sl v;have e:=lC sl v (by rw [h.len];omega);unfold atV szV;rw [← e];omega
theorem AJ {l:List af} {x:ae} {k i:Nat} {e:Int} (h:fW l x k=.bad i e) (t:k≤l.length):wK l (fW l x l.length)=(ak,(i:Int),e):=by
 rw [Ci h _ t];rfl
open Go.RowKit Go.ChangeShapes Go.WideShapes
def nJ (x:ae × Int × Int) (w:World) (e:Ending) (w':World):Prop :=
 ∃ A n c,e=.returned (.tuple #[.agg (tN x.1.h x.1.v x.1.c A n c),.int .i64 x.2.1,.int .i64 x.2.2])∧Sl (ab .i8) w' (bin w w') A n c x.1.data∧Below w w w'
theorem nJ.none {i e:Int} {w w':World} (t:Below w w w'):nJ (ak,i,e) w (.returned (.tuple #[.agg (tN 0 0 0 none 0 0),.int .i64 i,.int .i64 e])) w':=⟨Option.none,0,0,rfl,Sl.nil _ _ _,t⟩
theorem Dm {α:Type} {t:Ty α} {w w':World} {a b m:Nat} {A:QA} {n o:Nat} {l:List α} (h:Sl t w (bin a b) A n o l) (s:w.grownBy w' (some m)) (d:m < a) (r:b≤w.heap.size):Sl t w' (bin a b) A n o l :=
 h.keep fun x i=>s.block x (by have:=i.2;omega) (fun e=>by have:=sI e;have:=i.1;omega)
theorem xJ (A:QA) (n bz:Nat) (l:List af) (x:ae) (D:QA) (m cm:Nat) (w:World) (hs:Sl di w (blo w) A n bz l) (hx:aw x) (U:xA w D m cm x.data) (cD:m≤1024) (hf:pW l) :
  Calls prog 38 #[.slice A n bz,.agg (tN x.h x.v x.c D m cm)] w (nJ (eL l x) w):=by
 have hn:=hs.n_eq;obtain ⟨r,hr⟩:∃ r,eL l x=r:=⟨_,rfl⟩;rw [hr];have RA:=zH (fun w=>av x.h x.v x.c D m cm w hx.h hx.v hx.c (lT U.cap_le U.max_le));have ca:decide (0 < ag x.h x.v x.c∧ag x.h x.v x.c=m)=x.ok:=by unfold ae.ok;rw [U.n_eq]
 rw [ca] at RA;obtain ⟨SP,O,HM,HF⟩:=zh4 (fun w hs=>xL A n bz l x.h x.v x.c w hs hx.h hx.v hx.c hf) hn U.n_eq hf.2;have mx:n≤9223372036854775807:=lT hs.cap_le hs.max_le;have H:=zW w;obtain ⟨w1,bR,J,k1⟩:=nB w (tN x.h x.v x.c D m cm) 29;replace H:=zF k1 H;obtain ⟨w2,bT,z,k2⟩:=nB w1 (tN 0 0 0 none 0 0) 29;obtain ⟨H,J⟩:=uz2 k2 H J;have l1:=zL bR;have l2:=zL bT;obtain ⟨NS,HD⟩:=zh2 ((hs.fut k1).fut k2) ((U.fut k1).fut k2);obtain ⟨ok,bD⟩:∃ b,x.ok=b:=⟨_,rfl⟩;rw [bD] at RA;obtain ⟨OK,R⟩:=zh2 bD hr;clear bD hs U hf hn hr ca k1 k2 hx;cases ok
 case false =>
  have R:=zH (show r=(ak,-1,5) by rw [← R.o];unfold eL;rw [if_pos OK.o]);go_in
  go_wp2_with (refine lG J.o ?_)
  clear bR bT;refine qM (RA.o _) fun w3 C=>?_;obtain ⟨H,z⟩:=uz2 C H z;clear C
  go_wp2_with (refine sG (tN 0 0 0 none 0 0) z.o ?_;intro w4 B4 g4)
  have FZ:=Below.grown H.o.out g4 H.o.size (fun k hk=>by have:=sI hk;omega);refine eu rfl B4 rfl underlying29 kM rfl ?_;rw [R.o];exact nJ.none FZ
 obtain ⟨⟨⟨sl,al,sz⟩,p,g⟩,hq⟩:∃ q,iJ l (hvc x)=q:=⟨_,rfl⟩;rw [show iJ l (x.h,x.v,x.c)=((sl,al,sz),p,g) from hq] at SP;obtain ⟨q1,q2⟩:=Ca OK.o hq;obtain ⟨P1,P2⟩:=zh2 q1 q2;clear hq q1 q2;go_in
 go_wp2_with (refine lG J.o ?_)
 clear bR bT;refine qM (RA.o _) fun w3 C=>?_;obtain ⟨H,J,z,NS,HD⟩:=uz5 C H J z NS HD;clear C RA
 go_wp2_with (refine lP 23 (sN x.h x.v x.c) J.o ?_)
 refine (SP.o _ NS.o).mono ?_;rintro e w4 ⟨A1,m1,c1,A2,m2,c2,rfl,s1,s2,C⟩;obtain ⟨H,J,z,NS,HD⟩:=uz5 C H J z NS HD;obtain ⟨S1,S2⟩:=zh2 (show Sl dg w4 (blo w4) A1 m1 c1 sl from s1.old) (show Sl (ab .i64) w4 (blo w4) A2 m2 c2 al from s2.old);clear C SP s1 s2;simp only;by_cases V:g=0;rotate_left
 ·have t2:(g != 0)=true:=by simpa using V
  have R:=zH (show r=(ak,p,g) by rw [← R.o];exact (P1.o V).1);clear V P1 P2
  go_wp2_with (first
   | (refine sF 146 (.tmp 7) (.tmp 25) #[.slice A1 m1 c1,.slice A2 m2 c2,.int .i64 sz] ?_;intro F BP k5;obtain ⟨H,z⟩:=uz2 k5 H z;clear k5)
   | (refine sG (tN 0 0 0 none 0 0) z.o ?_;intro w6 B4 g4))
  have FZ:=Below.grown H.o.out g4 H.o.size (fun k hk=>by have:=sI hk;omega);refine eu rfl B4 rfl underlying29 kM rfl ?_;rw [R.o];exact nJ.none FZ
 subst V;have t2:((0:Int) != 0)=false:=rfl;obtain ⟨bp,ac,bB,ay,ci⟩:=P2.o rfl;have bd:=vU ac;have h8:=ac.few;have SL:=zH ac.len;rw [← ay] at bd;obtain ⟨cq,cx⟩:=bd;obtain ⟨N,rfl⟩:∃ N:Nat,sz=N:=⟨sz.toNat,by omega⟩;have hN:N≤1073741824:=oM;have e1:=S1.o.n_eq;have e2:=S2.o.n_eq;obtain ⟨HR,ah,AL,SZ,R⟩:=zh5 bp ac bB ay (show r=wK l (fW l x n) by rw [← R.o,ci,O.o]);rw [O.o] at h8;have an:=zH (show m1=n+1∧m2=n+1 by rw [← e1,← e2,SL.o,bB,atTo_len,O.o];exact ⟨rfl,rfl⟩);clear bp ac bB ay ci e1 e2 P1 P2 cq cx;try simp only [pX]
 go_upto_region 6 with (refine sF 146 (.tmp 7) (.tmp 25) #[.slice A1 m1 c1,.slice A2 m2 c2,.int .i64 N] ?_;intro F BP k5;obtain ⟨H,J,z,NS,HD,S1,S2⟩:=uz7 k5 H J z NS HD S1 S2;clear k5)
 have zb:=BP.o.lt;have dh:w1.heap.size < F.heap.size:=z.o.lt;have cW:=H.o.size;obtain ⟨M,G⟩:=zh2 (fun (v:Nat) (hv:v≤n)=>show atV l sl v+szV sl v≤N by have:=oI (L:=List.replicate N 0) ah.o (by rw [List.length_replicate];exact SZ.o) v (by rw [O.o];exact hv);rwa [List.length_replicate] at this) (fun (v:Nat) (hv:v≤n)=>(AL.o ▸ BI ah.o v (by rw [O.o];exact hv):al.getD v 0=(atV l sl v:Int)∧ag (sl.getD v (0,0,0)).1 (sl.getD v (0,0,0)).2.1 (sl.getD v (0,0,0)).2.2=(szV sl v:Int)));have bg:=S1;have bx:=S2;have bW:=NS;have Hb:=H;refine wp_region_held_drew (S:=fun w'=>w'.cell? ⟨w4.heap.size,2,none⟩=some (.int .i64 N)∧Blk w' w4.heap.size 146 #[.slice A1 m1 c1,.slice A2 m2 c2,.int .i64 N]∧Below F F w') kM ?_ (fun f=>?_)
 ·exact ⟨BP.o.drew.cell 2,BP.o.drew,(qB _ _).drew⟩
 refine tkH 0 rfl (yB 146 (.tmp 7) w4 (fun w hs=>hs.2.1) underlying146) f ?_;try simp only [pX]
 refine kH' 1 f ?_;refine kH' 2 f ?_;refine rH 3 rfl (fun K hK=>?_);rw [if_pos (by rfl)];refine dy (k:=.i8) (base:=F.heap.size) (n:=N) (.tmp 35) (.tmp 35) rfl jc .i64 .i64 rfl rfl oM mL f.2.2.size dM ?_;intro wm bl gm;have OW:=zH (show Own (ab .i8) wm (fun _=>False) F.heap.size 80 (.slice (some ⟨F.heap.size,0,none⟩) N N) N (List.replicate N 0) from bl);refine hK.out _ _ ⟨cM gm f.1 sM,Blk.grown0 f.2.1 gm,f.2.2.grown gm f.2.2.size sM⟩ (fun f=>?_);clear hK K bl gm;try simp only [pX]
 have zq:F.heap.size < wm.heap.size:=(OW.o.lt _ rfl).2;refine kH' 4 f ?_;refine rH 5 rfl (fun K hK=>?_);go_simp;obtain ⟨w6,cy,T,C⟩:=nB wm (rmC A1 m1 c1 A2 m2 c2 N F.heap.size N) 151;rw [cy];have z6:=C.size;replace OW:=zH (OW.o.below C (lR _) (fun _ h=>h.elim));refine hK.out _ _ ⟨au C f.1,Blk.later f.2.1 C,aa C f.2.2⟩ (fun f=>?_);clear hK K C cy;try simp only [pX]
 refine kH' 6 f ?_;refine wpAnyH_done kM ?_ _;replace H:=zF f.2.2 H;replace J:=zF f.2.2 J;replace z:=zF f.2.2 z;replace NS:=zF f.2.2 NS;replace HD:=zF f.2.2 HD;replace S1:=zF f.2.2 S1;replace S2:=zF f.2.2 S2;have F5:=zH f.2.2;clear f BP;obtain ⟨VA,V0⟩:=zh2 (fun (v:Nat) (hv:v≤n) (h1:1≤szV sl v) w C k1 k2=>j9 wm.heap.size A1 m1 c1 A2 m2 c2 N F.heap.size N sl al w C k1 k2 v _ rfl (by rw [an.o.1];omega) (by rw [an.o.2];omega) (atV l sl v) (szV sl v) (G.o v hv).1 (G.o v hv).2 h1 (M.o v hv) hN) (pI HR.o OK.o);have bc:szV sl 0=m:=by rw [kK V0.o (lR 0) (by rw [SL.o];omega)];exact HM.o
 have m0:1≤m:=by have:=(kE OK.o).2;rw [HM.o] at this;exact this
 obtain ⟨ad,rfl,ce,ct⟩:=Aa HD.o m0;obtain ⟨X0,X2,X1,X3,VZ⟩:=zh5 ce ct (show x.data.length=Nat.min m m by rw [HM.o];exact (Nat.min_self _).symm) (show atV l sl 0+x.data.length≤N by have:=M.o 0 (zl _);rw [bc] at this;rw [HM.o];exact this) (fun w C k1 k2=>VA.o 0 (zl _) (by rw [bc];exact m0) w C k1 k2);rw [bc] at VZ;obtain ⟨⟨y1,y2,y3⟩,hy⟩:∃ y,sl.getD 0 (0,0,0)=y:=⟨_,rfl⟩;rw [hy] at VZ;clear ce ct hy;have cB:∀ w:World,(Instr.field 29 (.agg (tN y1 y2 y3 (some ⟨F.heap.size,atV l sl 0,none⟩) m m)) 1).run prog w=.ok (.slice (some ⟨F.heap.size,atV l sl 0,none⟩) m m) w:=fun _=>by kernel_rfl
 go_upto_region 7 with fail
 refine wp_region_any kM ?_;refine wpAny_take (i:=0) (v:=?_) rfl (by as_aux_lemma=>kernel_rfl) (by as_aux_lemma=>kernel_rfl) (by as_aux_lemma=>kernel_rfl) (fun _ _ _ h=>h) (Or.inl ⟨by rfl,?_⟩) ?_;rotate_left
 ·intro w;go_simp;try with_reducible rfl
 try simp only [pX]
 refine wpAny_take (i:=3) (v:=?_) rfl (by as_aux_lemma=>kernel_rfl) (by as_aux_lemma=>kernel_rfl) (by as_aux_lemma=>kernel_rfl) (fun _ _ _ h=>h) (Or.inl ⟨by rfl,?_⟩) ?_;rotate_left
 ·intro w;go_simp;try with_reducible rfl
 try simp only [pX]
 refine wpAny_enterT (fun w'=>w'.cell? ⟨w.heap.size,3,none⟩=some (.slice (some ad) m cm)∧Below w6 w6 w') 5 ?_ (fun f=>?_)
 ·exact ⟨J.o.drew.cell 3,(qB _ _).drew⟩
 refine kT' 4 f ?_;refine rT 1 (fun K hK=>?_);go_simp;refine qM (VZ.o _ (T.o.fut f.2) (S1.o.fut f.2) (S2.o.fut f.2)) fun wv C=>?_;refine xK hK (by first|exact zR C f|exact ⟨au C f.1,aa C f.2⟩|exact aa C f|exact au C f) fun f=>?_;clear hK K;refine kT' 2 f ?_;refine wpAnyT_tail _ _ rfl rfl kM ?_;have O3:=OW.o.below f.2 (lR _) (fun _ h=>h.elim);refine jO (k:=.i8) rfl (.tmp 41) (.tmp 43) 27 27 rfl 80 underlying27 kM O3 (atV l sl 0) m m rfl ad m cm rfl x.data X0.o X1.o (fun j hj=>au f.2 (X2.o j hj)) X3.o ?_;intro w7 bb g7;have zv:=f.2.size;obtain ⟨E,OL⟩:=zh2 ((aa f.2 F5.o).grown g7 oM (fun j e=>by have:=sI e;omega)) bb;replace T:=zH ((T.o.fut f.2).away g7 oM);replace z:=zH ((z.o.fut f.2).away g7 oM);have RK:=zH (jx.first (L:=List.replicate N 0) ah.o (by rw [List.length_replicate];exact SZ.o) (by rw [bc];exact HM.o));clear f bb g7 O3 cB VZ X0 X1 X2 X3 OW J HD;go_wp2;go_loopw [47] (fun ii wr=>∃ (k:Nat) (out:List ae) (L:List Int),k≤n∧ii=.int .i64 k∧fW l x k=.on out∧jy out sl k∧jx l sl out k L∧Own (ab .i8) wr (fun _=>False) F.heap.size 80 (.slice (some ⟨F.heap.size,0,none⟩) N N) N L∧Blk wr wm.heap.size 151 (rmC A1 m1 c1 A2 m2 c2 N F.heap.size N)∧Blk wr w1.heap.size 29 (tN 0 0 0 none 0 0)∧Below F F wr) (fun ii _=>n - (intOf ii).toNat)
 case atStart=>exact ⟨0,[x],(splice (List.replicate N 0) (atV l sl 0) x.data),zl _,rfl,rfl,V0.o,RK.o,OL.o,T.o,z.o,E.o⟩
 case round =>
  obtain ⟨k,out,L,hk,rfl,cf,hv,cc,bw,cn,hz,co⟩:=hrel;clear E T z OL RK;obtain ⟨RV,I,RK,OL,T,z,E⟩:=zh7 cf hv cc bw cn hz co;clear cf hv cc bw cn hz co;by_cases X:k < n
  ·have p1:(k:Int) < (n:Int):=oM;obtain ⟨P,Q⟩:=zh2 (bg.o.later E.o (lR _)) (bx.o.later E.o (lR _));obtain ⟨d,b0,off,W,nw,cw,B,nb,cb,U,rfl,_,_,ch,bN,ax,cd⟩:=(bW.o.later E.o (lR _)).node_at k X;have ay:=HF.o d (mG U);have q8:=bN.n_eq;have cN:=ax.n_eq;have ht:=ah.o.there k (by rw [O.o];exact X);rw [show l.getD k aM=d by rw [gD,U];rfl] at ht;obtain ⟨p2,p3,p4,p5⟩:=fJ ht;obtain ⟨Y,bo⟩:∃ Y:Nat,d.a=Y:=⟨d.a.toNat,by omega⟩;obtain ⟨ib,bn⟩:∃ ib:Nat,ar d=ib:=⟨(ar d).toNat,by omega⟩;obtain ⟨ta,bH⟩:∃ t,out.getD Y ak=t:=⟨_,rfl⟩;obtain ⟨tb,bM⟩:∃ t,out.getD ib ak=t:=⟨_,rfl⟩;obtain ⟨⟨y,g⟩,hy⟩:∃ q,fA d ta tb=q:=⟨_,rfl⟩;have MV:dL d out=(y,g):=by unfold dL;rw [bo,bn,Int.toNat_natCast,Int.toNat_natCast,bH,bM,hy]
   have nx:=ro RV.o U;rw [MV] at nx;simp only at nx;have la:Y≤k:=oM;have lb:ib≤k:=oM;have bs:=I.o.ok Y la;have bh:=I.o.ok ib lb;have xa:=I.o.sh Y la;have xb:=I.o.sh ib lb;have na:=kK I.o la (by rw [SL.o,O.o];omega);have bO:=kK I.o lb (by rw [SL.o,O.o];omega);have va:=RK.o.holds Y la (.inr ⟨k,d,lR _,U,.inl bo.symm⟩);have vb:=RK.o.holds ib lb (.inr ⟨k,d,lR _,U,.inr bn.symm⟩);rw [bH] at bs xa na va;rw [bM] at bh xb bO vb;have ea:=(G.o Y oM).2;have eb:=(G.o ib oM).2;rw [xa] at ea;rw [xb] at eb;have NV:=zH (fun (h:g=0)=>rD HR.o (by rw [O.o];exact X) I.o U (by rw [MV];exact h));rw [MV] at NV;simp only at NV;have LY:=zH (fun (h:g=0)=>show y.data.length=szV sl (k+1)∧1≤szV sl (k+1) from by
    have v:=NV.o h;have q:=kK v (lR (k+1)) (by rw [SL.o,O.o];omega);have e:(out ++ [y]).getD (k+1) ak=y:=by rw [gD,List.getElem?_append_right (by rw [I.o.len];exact lR _),I.o.len,Nat.sub_self];rfl
    have o:=(kE (v.ok (k+1) (lR _))).2;rw [e] at q o
    omega)
   obtain ⟨DN,LN,RG,W8,ba,NX⟩:=zh6 (fun w C h1 h2 bl hw cA=>AC wm.heap.size A1 m1 c1 A2 m2 c2 N F.heap.size N F.heap.size sl al L w C h1 h2 bl hN d W nw cw B nb cb ch hw cA ⟨by omega,by omega⟩ y g k Y ib bo bn ta tb bs bh (by have:=an.o;omega) (by have:=an.o;omega) (by have:=an.o;omega) (atV l sl Y) (atV l sl ib) (atV l sl (k+1)) (szV sl Y) (szV sl ib) (szV sl (k+1)) xa xb _ rfl ea eb (G.o (k+1) oM).2 (by rw [na];exact (kE bs).2) (by rw [bO];exact (kE bh).2) (fun h=>(LY.o h).2) (G.o Y oM).1 (G.o ib oM).1 (G.o (k+1) oM).1 (M.o Y oM) (M.o ib oM) (M.o (k+1) oM) va vb hy (fun h=>(LY.o h).1)) (OL.o.length dM) cd bN ax nx;clear U ch bN ax cd nx MV bs bh xa xb na bO va vb ea eb bH bM hy bo bn ht ay
   go_wp2_with (first
    | (refine lM 84 (.tmp 50) RG.o underlying84 ?_)
    | (refine sF 84 (.tmp 12) (.tmp 51) (nD d W nw cw B nb cb) ?_;intro w8 BN k8;obtain ⟨T,z,P,Q,W8,ba⟩:=uz6 k8 T z P Q W8 ba;replace OL:=zH (OL.o.below k8 (lR _) (fun _ h=>h.elim));replace E:=zH (aa k8 E.o);clear k8 RG)
    | (refine lG BN.o ?_))
   refine (DN.o _ T.o P.o Q.o OL.o W8.o ba.o).mono ?_;rintro e w9 ⟨rfl,bt,g9⟩;have F9:=zH (E.o.grown g9 E.o.size (fun j e=>by have:=sI e;omega));replace T:=zA g9 T;replace z:=zA g9 z;clear DN BN W8 ba g9 OL E P Q;by_cases V:g=0
   ·have o9:=bt;rw [if_pos V] at o9;have OL:=zH o9;have v1:=NV.o V;have cp:=(LY.o V).1;have r1:=RK.o.step (t:=y) ah.o (by rw [LN.o];exact SZ.o) (by rw [O.o];exact X) I.o.len cp;have n1:=NX.o;rw [if_neg (by simpa using V)] at n1;have Z:=zH (And.intro v1 (And.intro r1 n1));subst V;clear bt o9 v1 r1 n1 cp NV LY NX RK I RV;go_wp2;exact ⟨⟨k+1,out ++ [y],_,by omega,by go_num,Z.o.2.2,Z.o.1,Z.o.2.1,OL.o,T.o,z.o,F9.o⟩,by simp [intOf];omega⟩
   ·have t3:(g != 0)=true:=by simpa using V
    have n1:=NX.o;rw [if_pos V] at n1;have R2:=zH (show r=(ak,(k:Int),g) by rw [R.o];rw [← O.o] at X ⊢;exact AJ n1 X);clear bt n1 V NV LY NX RK I RV R
    go_wp2_with (refine sG (tN 0 0 0 none 0 0) z.o ?_;intro cC ck cz)
    have FZ:=Below.grown (az Hb.o.out F9.o Hb.o.size) cz (by have:=F9.o.size;omega) (fun j hj=>by have:=sI hj;omega);refine eu rfl ck rfl underlying29 kM rfl ?_;rw [R2.o];exact nJ.none FZ
  ·have en:n=k:=oM;subst en;obtain ⟨P,Q⟩:=zh2 (bg.o.later E.o (lR _)) (bx.o.later E.o (lR _));obtain ⟨t,ht⟩:∃ t,out.getD n ak=t:=⟨_,rfl⟩;have br:=I.o.ok n (lR _);have xt:=I.o.sh n (lR _);have nt:=kK I.o (lR n) (by rw [SL.o,O.o];omega);have vt:=RK.o.holds n (lR _) (.inl O.o.symm);rw [ht] at br xt nt vt;obtain ⟨R2,VN⟩:=zh2 (show r=(t,(n:Int),0) by rw [R.o,RV.o];show (out.getD l.length ak,(l.length:Int),(0:Int))=_;rw [O.o,ht]) (fun w C k1 k2=>VA.o n (lR _) (by rw [nt];exact (kE br).2) w C k1 k2);rw [xt] at VN;have fN:=M.o n (lR _);have DT:=zH (og OL.o _ _ fN);rw [show (L.drop (atV l sl n)).take (szV sl n)=t.data from vt] at DT;obtain ⟨s,hs⟩:∃ s,szV sl n=s:=⟨_,rfl⟩;obtain ⟨p0,cr⟩:∃ p,atV l sl n=p:=⟨_,rfl⟩;rw [hs,cr] at VN fN DT;have TN:=zH (fun w ha=>(jN t (some ⟨F.heap.size,p0,none⟩) s s w br ha oM).mono (fun e w' h=>(h:∃ A n c,e=.returned (.tuple #[.agg (tN t.h t.v t.c A n c),.int .i64 0])∧Sl (ab .i8) w' (bin w w') A n c t.data∧Below w w w')));have zr:=E.o.size;clear br xt nt vt ht hs cr RK I RV OL VA G M R V0 bW NS S1 S2 bg bx HR AL SZ H F5;go_wp2_with fail;refine qM (VN.o _ T.o P.o Q.o) fun w8 C=>?_;have cX:=C.size;obtain ⟨z,DT⟩:=uz2 C z DT;replace E:=zH (aa C E.o);clear C VN T P Q;simp only
   go_wp2_with (first
    | (refine sF 29 (.tmp 14) (.tmp 65) (tN t.h t.v t.c (some ⟨F.heap.size,p0,none⟩) s s) ?_;intro w9 BY k9;have ds:=k9.size;obtain ⟨z,DT⟩:=uz2 k9 z DT;replace E:=zH (aa k9 E.o);have cY:=BY.o.cell 3;clear k9)
    | (refine lP 23 (sN t.h t.v t.c) BY.o ?_))
   refine (TN.o _ DT.o).mono ?_;rintro e cC ⟨A9,n9,c9,rfl,s9,C⟩;have cH:=C.size;have S9:=zH s9;replace z:=zF C z;replace E:=zH (aa C E.o);clear C TN BY DT s9 cY
   go_wp2_with (first
    | (refine sF 29 (.tmp 15) (.tmp 72) (tN t.h t.v t.c A9 n9 c9) ?_;intro cR BW be;have cK:=be.size;replace z:=zF be z;replace S9:=zH (S9.o.below be (fun _ h=>h.2));replace E:=zH (aa be E.o);clear be)
    | (refine lG BW.o ?_)
    | (refine sG (tN t.h t.v t.c A9 n9 c9) z.o ?_;intro cS cj bA))
   have cL:=bA.size;have FZ:=Below.grown (az Hb.o.out E.o Hb.o.size) bA oM (fun j hj=>by have:=sI hj;omega);refine eu rfl cj rfl underlying29 kM rfl ?_;rw [R2.o];exact ⟨A9,n9,c9,rfl,(Dm S9.o bA oM oM).more (fun b h=>⟨lT (by have:=Hb.o.size;omega) h.1,Nat.lt_of_lt_of_le h.2 oM⟩),FZ⟩
open Go.Proofs.YtbecbfpoahhpnaaGreat.Rk
abbrev vZ:Array Value:=#[.int .i64 0,.int .i64 0,.slice none 0 0,.bool false]
abbrev zB5:Array Value:=#[.slice none 0 0,.bool false,.slice none 0 0,.slice none 0 0,.int .i32 0]
abbrev bC (L:QA) (ln lc:Nat) (ex:Bool) (nd:Int) (W:QA) (nw cw:Nat) (V:QA) (nv cv:Nat):Array Value:=#[.slice L ln lc,.bool ex,.slice W nw cw,.slice V nv cv,.int .i32 nd]
def DC (q:Int × Int × ae) (sp:Int) (t:ae) (ex:Bool) (v:Ver) (w:World) (e:Ending) (w':World):Prop :=
 ∃ X n c Y m d L l k,e=.returned (.tuple #[.agg (pK q.1 q.2.1 sp t X n c q.2.2 Y m d),.agg #[.int .i64 v.cls,.int .i64 v.marg,.slice L l k,.bool v.en],.bool ex,.int .i64 0]) ∧
  Sl (ab .i8) w' (bin w w') X n c t.data∧Sl (ab .i8) w' (bin w w') Y m d q.2.2.data∧Sl (ab .i32) w' (bin w w') L l k v.lg∧Below w w w'
theorem qD {k:IntKind} {w i s:World} {D:Nat → Prop} {A:QA} {n c:Nat} {l:List Int} (h:Sl (ab k) w D A n c l) (t:∀ b,D b → b < w.heap.size) (o:Below w w i) (g:i.grownBy s (some w.heap.size)):Sl (ab k) s D A n c l :=
 h.keep fun y a=>(g.block y (Nat.lt_of_lt_of_le (t y a) o.size) (fun e=>by have:=sI e;have:=t y a;omega)).trans (o.block y (t y a))
theorem eP {k:IntKind} {w o:World} {D:Nat → Prop} {A:QA} {n c m:Nat} {l:List Int} (h:Sl (ab k) w D A n c l) (t:∀ b,D b → b < w.heap.size∧b ≠ m) (g:w.grownBy o (some m)):Sl (ab k) o D A n c l :=
 h.keep fun y a=>g.block y (t y a).1 (fun e=>by have:=sI e;have:=(t y a).2;omega)
theorem uf {P:Program} {k:Func} {R:Ending → World → Prop} {a:Act} {w:World} {p y u u2:Tmp} {r o:TypeId} {g s:Nat} {e b:TypeId} {cs t:Array Value} {j i:Array Field} (h:k.results=#[.cell p r,.cell y o,.tmp u,.tmp u2]) (x:Blk w g e cs) (d:Blk w s b t)
  (A:a.tmps.getD p undef=.pointer (some ⟨g,0,none⟩)) (m:a.tmps.getD y undef=.pointer (some ⟨s,0,none⟩)) (B:P.underlying r=some (.struct j)) (f:P.underlying o=some (.struct i)) (hi:(P.info? r).map (·.size)=some cs.size) (l:(P.info? o).map (·.size)=some t.size) (z:a.defers=[])
  (q:R (.returned (.tuple #[.agg cs,.agg t,a.tmps.getD u undef,a.tmps.getD u2 undef])) w):bodyPost P k R .ret a w:=by
 refine bodyPost_ret (v:=.tuple #[.agg cs,.agg t,a.tmps.getD u undef,a.tmps.getD u2 undef]) ?_ z q;have c:a.tmps[p]?.getD undef=.pointer (some ⟨g,0,none⟩):=by simpa using A
 have n:a.tmps[y]?.getD undef=.pointer (some ⟨s,0,none⟩):=by simpa using m
 simp [results,h,Sem.run_bind,c,n,df,run_loadVar_row w g e r cs (0,0) (.struct j) x.heap B rfl hi,run_loadVar_row w s b o t (0,0) (.struct i) d.heap f rfl l,Result.andThen]
theorem Ad (u:Bun) (A:QA) (n an:Nat) (B:QA) (nb cb:Nat) (C:QA) (nc cc:Nat) (k j:Nat) (s:Int) (t x:ae) (X:QA) (nx cx:Nat) (Y:QA) (ny cy:Nat) (g:Nat) (m:List aN) (b:aN) (out:ae) (f:Int) (w:World) (E:Blk w g 99 (nK u A n an B nb cb C nc cc))
  (ht:aw t) (ac:aw x) (hm:Sl bJ w (blo w) A n an u.models) (hi:Sl kt w (blo w) C nc cc (fT u)) (hc:Sl fi w (blo w) B nb cb (aO u)) (hx:xA w X nx cx t.data) (r:xA w Y ny cy x.data)
  (hk:u.models[k]?=some m) (bh:m[j]?=some b) (h8:m.length≤8) (ci:k < 8) (hr:rightW u k j s t x=true) (be:mD u k j s t x=f) (cr:0≤f∧f≤1099511627776∧0≤s∧s+f≤1099511627776)
  (bz:eL b.nodes x=(out,(b.nodes.length:Int),0)) (hf:pW b.nodes) (ax:ny≤1024) (ch:nx≤300) (bD:t.ok=true) (bt:aw out) (hl:b.exit=true → (fM out b.head u.cl).2=0) (bg:InK .i64 u.cl) :
  Calls prog 14 #[.pointer (some ⟨g,0,none⟩),.agg (pK (k:Int) (j:Int) s t X nx cx x Y ny cy)] w (DC (jW k j m.length t out) (s+f) t b.exit (if b.exit=true then (fM out b.head u.cl).1 else pc) w):=by
 have RI:=zH (fun w hm hi hx r=>pl u A n an B nb cb C nc cc k j s t x X nx cx Y ny cy w ht ac hm hi hx r);rw [hr] at RI;have CO:=zH (fun w E hm hi hx r hc=>m7 u A n an B nb cb C nc cc k j s t x X nx cx Y ny cy g w E ht ac hm hi hx r hc);rw [be] at CO;have EV:=zH (fun w L ln lc U hd=>xJ L ln lc b.nodes x Y ny cy w U ac hd ax hf);rw [bz] at EV;unfold nJ at EV;simp only at EV;have NX:=zH (fun w Z nz cz D hD hm hx hz=>rU u A n an B nb cb C nc cc k j s t x out X nx cx Y ny cy Z nz cz (s+f) m D w hD bD hk (List.getElem?_eq_some_iff.1 bh).1 h8 ci hm hx hz oM);obtain ⟨q,hq⟩:∃ q,jW k j m.length t out=q:=⟨_,rfl⟩;simp only [hq] at NX ⊢;unfold DB at NX;obtain ⟨LK,HL⟩:=zh2 (fun (W:QA) (nw cw:Nat) (V:QA) (nv cv:Nat) w Z nz cz (hn:InK .i32 b.head.need) ha hw E h0=>uH out Z nz cz b.head W nw cw V nv cv u.cl w bt hn bg ha hw E h0) hl;obtain ⟨v,hv⟩:∃ v,(if b.exit=true then (fM out b.head u.cl).1 else pc)=v:=⟨_,rfl⟩;have HV:=zH hv.symm;rw [hv];obtain ⟨ex,br⟩:∃ y,b.exit=y:=⟨_,rfl⟩;simp only [br] at HL HV ⊢;have EX:=zH br;unfold yc at LK;obtain ⟨HM,HI,HX,HY,HC,HK,HB,J⟩:=zh8 (Old.now hm) (Old.now hi) (Old.now hx) (Old.now r) (Old.now hc) hk bh E;have lg:=E.lt;have HN:=zH hm.n_eq;have F:=zW w;obtain ⟨w1,bW,M,bO⟩:=nB w (pK (k:Int) (j:Int) s t X nx cx x Y ny cy) 37;obtain ⟨F,J⟩:=uz2 bO F J;clear bO;obtain ⟨w2,ce,N,bR⟩:=nB w1 pZ 37;obtain ⟨F,J,M⟩:=uz3 bR F J M;clear bR;obtain ⟨w3,ct,BV,bT⟩:=nB w2 vZ 44;obtain ⟨F,J,M,N⟩:=uz4 bT F J M N;clear bT E ac hm hi hc hx r hk bh hr be bz hf ax hl bg bD hq ht bt hv br;have l1:=zL bW;have l2:=zL ce;have l3:=zL ct;go_in
 go_upto_region 4 with (refine sF 44 (.tmp 8) (.tmp 16) vZ ?_;intro w4 BZ k4;have l4:=k4.size;obtain ⟨F,J,M,N,BV⟩:=uz5 k4 F J M N BV;clear k4 bW ce ct)
 have lz:=BZ.o.lt;obtain ⟨R0,R1,E1⟩:=zh3 (fun z:Ext w4=>aq (off:=0) (vs:=[.int .i64 u.h,.int .i64 u.v,.int .i64 u.c,.int .i64 u.cl,.slice A n an,.slice B nb cb,.slice C nc cc]) (J.o.ext z) rfl) (fun z:Ext w4=>aq (off:=0) (vs:=[.int .i64 (k:Int),.int .i64 (j:Int),.int .i64 s,.int .i64 t.h,.int .i64 t.v,.int .i64 t.c,.slice X nx cx,.int .i64 x.h,.int .i64 x.v,.int .i64 x.c,.slice Y ny cy]) (M.o.ext z) rfl) (fun z:Ext w4=>aB z (RI.o z.1 ((HM.o.fut F.u).fut z.2).all ((HI.o.fut F.u).fut z.2).all ((HX.o.fut F.u).fut z.2).all ((HY.o.fut F.u).fut z.2).all))
 (try simp only [Act.put])
 refine am w4 kM kM (qB _ _) ?_
 iterate 3 (go_big_quiet_step (fail))
 refine aj kM 92 (.tmp 23) rfl g (0) rfl _ _ (by rintro _ ⟨z,rfl⟩;exact R0.o z) underlying92 rfl kM ?_;simp only [pX];refine aj kM 37 (.tmp 3) rfl w.heap.size (0) rfl _ _ (by rintro _ ⟨z,rfl⟩;exact R1.o z) underlying37 rfl kM ?_;simp only [pX];repeat (go_big_quiet_step (first|exact E1.o _))
 refine wpQuiet_nil ?_;rintro w5 ⟨⟨_,E⟩,rfl⟩;have l5:=E.size;obtain ⟨F,J,M,N,BV,BZ⟩:=uz6 E F J M N BV BZ;clear E R0 R1 E1 RI
 go_wp2_with (refine lG M.o ?_)
 refine qM (CO.o _ J.o (HM.o.fut F.u).all (HI.o.fut F.u).all (HX.o.fut F.u).all (HY.o.fut F.u).all (HC.o.fut F.u).all) fun w6 E=>?_;have l6:=E.size;obtain ⟨F,J,M,N,BV,BZ⟩:=uz6 E F J M N BV BZ;clear E CO;have b2:=M.o.cell 2;have gs:IntKind.i64.wrap (1099511627776 - s)=1099511627776 - s:=wJ;have t1:decide (1099511627776 - s < f)=false:=sO;obtain ⟨m',gm,om,A',n',c',bB,rfl,a,bx,bc⟩:=(HM.o.fut F.u).all.model_at k (by have:=HN.o;have:=(List.getElem?_eq_some_iff.1 HK.o).1;omega);rw [HK.o] at bB;obtain rfl:=sI bB;have cn:=bc.n_eq;subst cn;obtain ⟨b',gb,ob,L,ln,lc,W,nw,cw,V,nv,cv,bb,rfl,co,bl,bs⟩:=bc.blk_at j (List.getElem?_eq_some_iff.1 HB.o).1;rw [HB.o] at bb;obtain rfl:=sI bb;rw [EX.o] at bl;obtain ⟨RG,AT,HD⟩:=zh3 bl bs bs.need;have k4:=J.o.cell 4;obtain ⟨p0,p1⟩:=uc2 M 0 1;have jn:j < m.length:=(List.getElem?_eq_some_iff.1 HB.o).1;have kn:k < n:=by have:=HN.o;have:=(List.getElem?_eq_some_iff.1 HK.o).1;omega
 have cf:(j:Int) < (m.length:Int):=oM;have cp:(k:Int) < (n:Int):=oM;clear a co bl bs bc HK HB
 go_upto_region 9 with fail
 clear b2 t1 gs;refine aP (fun w'=>w'.cell? ⟨g,4,none⟩=some (.slice (some ⟨gm,om,none⟩) n an)∧w'.cell? ⟨w.heap.size,0,none⟩=some (.int .i64 (k:Int))∧w'.cell? ⟨gm,om+k,none⟩=some (.slice (some ⟨gb,ob,none⟩) m.length c')∧w'.cell? ⟨w.heap.size,1,none⟩=some (.int .i64 (j:Int))∧Below w6 w6 w') 16 kM ?_ (fun a=>?_)
 ·exact ⟨au (qB _ _).drew k4,au (qB _ _).drew p0,au (qB _ _).drew bx,au (qB _ _).drew p1,(qB _ _).drew⟩
 refine kT' 0 a ?_;refine kT' 1 a ?_;refine kT' 2 a ?_;refine kT' 3 a ?_;refine kT' 4 a ?_;refine kT' 5 a ?_;refine kT' 6 a ?_;refine kT' 7 a ?_;refine kT' 8 a ?_;refine kT' 9 a ?_;refine kT' 10 a ?_;refine kT' 11 a ?_;refine kT' 12 a ?_;refine kT' 13 a ?_;refine tkT 14 rfl (yieldsIf_load_mid (by rfl) 51 (.tmp 53) rfl gb (ob+j*5) rfl [.slice L ln lc,.bool ex,.slice W nw cw,.slice V nv cv,.int .i32 b.head.need] _ (fun wz U i v hv=>au U.2.2.2.2 (RG.o i v hv)) underlying51 rfl kM) a ?_;try simp only [pX]
 refine rT 15 (fun K l=>?_);go_simp;have E:Below w6.drew.heap.size w6.drew (w6.drew.alloc (.cells zB5 51)):=(qB _ _).alloc (lR _) _;have BX:=zH (Blk.now w6.drew w6.heap.size 51 zB5 rfl);refine l.out _ _ ?_ (fun a=>?_);· exact ⟨au E a.1,au E a.2.1,au E a.2.2.1,au E a.2.2.2.1,aa E a.2.2.2.2⟩
 clear l K;try simp only [pX]
 refine wpAnyT_tail _ _ rfl rfl kM ?_;have kb:=a.2.2.2.2;have l7:=kb.size;have lx:=BX.o.lt;obtain ⟨F,J,M,N,BV,BZ⟩:=uz6 kb F J M N BV BZ;obtain ⟨AN,AW,AB⟩:=zh3 ((Old.now AT.o.nodes).fut kb) ((Old.now AT.o.hw).fut kb) ((Old.now AT.o.hb).fut kb);clear a k4 p0 p1 bx kb RG AT E
 go_wp2_with (first
  | (refine sG (bC L ln lc ex b.head.need W nw cw V nv cv) BX.o ?_;intro w8 B8 g8;have l8:=g8.size;replace F:=zA g8 F;replace J:=zA g8 J;replace M:=zA g8 M;replace N:=zA g8 N;replace BV:=zA g8 BV;replace BZ:=zA g8 BZ;replace AN:=zA g8 AN;replace AW:=zA g8 AW;replace AB:=zA g8 AB;clear g8;have d0:=B8.cell 0)
  | (refine lP 29 (tN x.h x.v x.c Y ny cy) M.o ?_))
 refine (EV.o _ L ln lc AN.o.all (HY.o.fut F.u).all).mono ?_;rintro e w9 ⟨Z,nz,cz,rfl,sz,E⟩;obtain ⟨SZ,BB⟩:=zh2 sz B8;have l9:=E.size;obtain ⟨F,J,M,N,BV,BZ,BB,AW,AB⟩:=uz9 E F J M N BV BZ BB AW AB;clear E d0 B8 sz AN EV
 go_upto_region 13 with (refine sF 29 (.tmp 11) (.tmp 61) (tN out.h out.v out.c Z nz cz) ?_;intro G BO ay;have ck:=ay.size;have lo:=BO.o.lt;obtain ⟨F,J,M,N,BV,BZ,BB,AW,AB⟩:=uz9 ay F J M N BV BZ BB AW AB;replace SZ:=zH (SZ.o.keep (fun y r=>ay.block y r.2));clear ay)
 have NY:=zH (fun (wz:World) (hz:Below G G wz)=>NX.o wz Z nz cz (bin w8 w9) (fun y r=>by have:=r.2;have:=hz.size;omega) ((HM.o.fut F.u).fut hz).all ((HX.o.fut F.u).fut hz).all (SZ.o.keep (fun y r=>hz.block y (by have:=r.2;omega))));have gw:IntKind.i64.wrap (s+f)=s+f:=wJ;go_cut [14] (fun p wx=>∃ gq O n1 Q P m1 R,p=.pointer (some ⟨gq,0,none⟩)∧Blk wx gq 37 (pK q.1 q.2.1 (s+f) t O n1 Q q.2.2 P m1 R)∧Sl (ab .i8) wx (fun y=>bin w8 wx y∧y ≠ gq) O n1 Q t.data∧Sl (ab .i8) wx (fun y=>bin w8 wx y∧y ≠ gq) P m1 R q.2.2.data∧G.heap.size≤gq∧Below G G wx)
 case first =>
  refine wp_region_held_drew (S:=fun w'=>Below G G w') kM ?_ (fun a=>?_)
  ·exact (qB _ _).drew
  refine kH' 0 a ?_;refine kH' 1 a ?_;refine kH' 2 a ?_;refine tkH 3 rfl (yieldsIf_load_blk (by rfl) 92 (.tmp 71) rfl g 0 rfl _ (nK u (some ⟨gm,om,none⟩) n an B nb cb C nc cc) (nK u (some ⟨gm,om,none⟩) n an B nb cb C nc cc) _ (fun wz U=>J.o.later U) underlying92 rfl kM rfl) a ?_;try simp only [pX]
  refine tkH 4 rfl (yieldsIf_load_blk (by rfl) 37 (.tmp 3) rfl w.heap.size 0 rfl _ (pK (k:Int) (j:Int) s t X nx cx x Y ny cy) (pK (k:Int) (j:Int) s t X nx cx x Y ny cy) _ (fun wz U=>M.o.later U) underlying37 rfl kM rfl) a ?_;try simp only [pX]
  refine tkH 5 rfl (yieldsIf_load_blk (by rfl) 29 (.tmp 11) rfl w9.heap.size 0 rfl _ (tN out.h out.v out.c Z nz cz) (tN out.h out.v out.c Z nz cz) _ (fun wz U=>BO.o.later U) underlying29 rfl kM rfl) a ?_;try simp only [pX]
  refine kH' 6 a ?_;refine tkH 7 rfl (v:=?_) (Or.inl ⟨by rfl,?_⟩) a ?_;rotate_left
  ·intro wz bn;have zz:=(M.o.later bn).cell 2;simp only [gX] at zz;go_simp;try with_reducible rfl
  try simp only [pX]
  refine kH' 8 a ?_;refine kH' 9 a ?_;refine wpAnyH_ready (rs:=[10,11]) kM sM ?_;refine AllReadyH.cons rfl (fun K l=>?_) (AllReadyH.cons rfl (fun K l=>?_) AllReadyH.nil)
  ·go_simp;have sz:G.heap.size≤G.drew.heap.size:=a.size;refine (NY.o G.drew a).mono ?_;rintro e wa ⟨O,n1,Q,P,m1,R,rfl,sx,sy,E⟩;have za:=E.size;refine l.out _ _ (aa E a) (fun a=>?_);clear l K;try simp only [pX]
   refine rH 11 rfl (fun K l=>?_);go_simp;obtain ⟨T,ad⟩:=zB wa pZ 37;refine l.out _ _ (aa T a) (fun a=>?_);clear l K;try simp only [pX]
   refine rH 12 rfl (fun K l=>?_);rw [if_pos (by rfl)];refine oG (pK q.1 q.2.1 (s+f) t O n1 Q q.2.2 P m1 R) ad.o ?_;intro wc ah gc;have zc:=gc.size;simp only [World.size_alloc,World.size_drew] at zc za;have FX:=a.grown gc a.size (fun i h=>by have:=sI h;omega);refine l.out _ _ FX (fun a=>?_);clear l K;try simp only [pX]
   refine wpAnyH_done kM ?_ _;go_wp2_with fail;go_meet
   case rel=>exact ⟨wa.heap.size,O,n1,Q,P,m1,R,rfl,ah,(qD sx (fun y r=>r.2) T gc).more (fun y r=>⟨⟨by have:=r.1;simp only [World.size_drew] at this;omega,by have:=r.2;omega⟩,by have:=r.2;omega⟩),(qD sy (fun y r=>by rcases r with h|h;(have:=h.2;omega);exact h.2) T gc).more (fun y r=>⟨⟨by rcases r with h|h;(exact h.1);(have:=h.1;simp only [World.size_drew] at this;omega),by rcases r with h|h <;> (have:=h.2;omega)⟩,by rcases r with h|h <;> (have:=h.2;omega)⟩),by omega,FX⟩
  ·go_simp;have T:Below G.drew.heap.size G.drew (G.drew.alloc (.cells pZ 37)):=(qB _ _).alloc (lR _) _;have ad:=zH (Blk.now G.drew G.heap.size 37 pZ rfl);refine l.out _ _ (aa T a) (fun a=>?_);clear l K;try simp only [pX]
   refine rH 10 rfl (fun K l=>?_);go_simp;have sz:G.heap.size≤(G.drew.alloc (.cells pZ 37)).heap.size:=a.size;refine (NY.o (G.drew.alloc (.cells pZ 37)) a).mono ?_;rintro e wa ⟨O,n1,Q,P,m1,R,rfl,sx,sy,E⟩;have za:=E.size;simp only [World.size_alloc,World.size_drew] at za sx sy;have bo:=zH (ad.o.later E);refine l.out _ _ (aa E a) (fun a=>?_);clear l K;try simp only [pX]
   refine rH 12 rfl (fun K l=>?_);rw [if_pos (by rfl)];refine oG (pK q.1 q.2.1 (s+f) t O n1 Q q.2.2 P m1 R) bo.o ?_;intro wc ah gc;have zc:=gc.size;have FX:=a.grown gc a.size (fun i h=>by have:=sI h;omega);refine l.out _ _ FX (fun a=>?_);clear l K;try simp only [pX]
   refine wpAnyH_done kM ?_ _;go_wp2_with fail;go_meet
   case rel=>exact ⟨G.heap.size,O,n1,Q,P,m1,R,rfl,ah,(eP sx (fun y r=>⟨r.2,by have:=r.1;omega⟩) gc).more (fun y r=>⟨⟨by have:=r.1;omega,by have:=r.2;omega⟩,by have:=r.1;omega⟩),(eP sy (fun y r=>by rcases r with h|h;(have:=h.2;exact ⟨by omega,by omega⟩);(have:=h.1;exact ⟨h.2,by omega⟩)) gc).more (fun y r=>⟨⟨by rcases r with h|h <;> (have:=h.1;omega),by rcases r with h|h <;> (have:=h.2;omega)⟩,by rcases r with h|h;(have:=h.2;omega);(have:=h.1;omega)⟩),lR _,FX⟩
 case rest =>
  obtain ⟨gq,O,n1,Q,P,m1,R,rfl,bd,bH,bM,cd,hw⟩:=hcut;obtain ⟨d,rfl⟩:∃ z,z=wc:=⟨_,rfl⟩;obtain ⟨al,SX,SY⟩:=zh3 bd bH bM;have cj:=hw.size;have lq:=bd.lt;obtain ⟨F,J,N,BV,BZ,BB,BO,AW,AB⟩:=uz9 hw F J N BV BZ BB BO AW AB;replace SZ:=zH (SZ.o.keep (fun y r=>hw.block y (by have:=r.2;omega)));clear bd bH bM hw gw NY NX M;have bp:=BB.o.cell 1;have cA:w3.heap.size < w8.heap.size:=oM;cases ex with
  | false =>
   have V0:=zH (show v=pc from HV.o)
   go_upto_region 15 with fail
   clear bp;refine wp_region_held_drew (S:=fun w'=>Blk w' gq 37 (pK q.1 q.2.1 (s+f) t O n1 Q q.2.2 P m1 R)∧Blk w' w3.heap.size 44 vZ∧Below w w w'∧Sl (ab .i8) w' (fun y=>bin w8 d y∧y ≠ gq) O n1 Q t.data∧Sl (ab .i8) w' (fun y=>bin w8 d y∧y ≠ gq) P m1 R q.2.2.data∧d.heap.size≤w'.heap.size) kM ?_ (fun a=>?_)
   ·exact ⟨al.o.drew,BZ.o.drew,F.u.drew,SX.o.keep (fun _ _=>rfl),SY.o.keep (fun _ _=>rfl),lR _⟩
   refine tkH 0 rfl (yieldsIf_load_blk (by rfl) 37 (.tmp 14) rfl gq 0 rfl _ (pK q.1 q.2.1 (s+f) t O n1 Q q.2.2 P m1 R) (pK q.1 q.2.1 (s+f) t O n1 Q q.2.2 P m1 R) _ (fun wz U=>U.1) underlying37 rfl kM rfl) a ?_;try simp only [pX]
   refine tkH 1 rfl (yieldsIf_load_blk (by rfl) 44 (.tmp 8) rfl w3.heap.size 0 rfl _ vZ vZ _ (fun wz U=>U.2.1) underlying44 rfl kM rfl) a ?_;try simp only [pX]
   refine rH 2 rfl (fun K l=>?_);rw [if_pos (by rfl)];refine oG (pK q.1 q.2.1 (s+f) t O n1 Q q.2.2 P m1 R) N.o.drew ?_;intro wy B4 gy;have zy:=gy.size;have ba:=(BV.o.drew).away gy (.inr oM);refine l.out _ _ ⟨a.1.away gy oM,a.2.1.away gy oM,a.2.2.1.grown gy (by have:=a.2.2.1.size;omega) (fun i e=>by have:=sI e;omega),eP a.2.2.2.1 (fun y r=>⟨by have:=r.1.2;have:=a.2.2.2.2.2;omega,by have:=r.1.1;omega⟩) gy,eP a.2.2.2.2.1 (fun y r=>⟨by have:=r.1.2;have:=a.2.2.2.2.2;omega,by have:=r.1.1;omega⟩) gy,by have:=a.2.2.2.2.2;have:=gy.size;omega⟩ (fun a=>?_);clear l K;try simp only [pX]
   refine rH 3 rfl (fun K l=>?_);rw [if_pos (by rfl)];refine oG vZ ba ?_;intro wz B5 gz;replace B4:=B4.away gz (.inl oM);refine l.out _ _ ⟨a.1.away gz oM,a.2.1.away gz oM,a.2.2.1.grown gz (by have:=a.2.2.1.size;omega) (fun i e=>by have:=sI e;omega),eP a.2.2.2.1 (fun y r=>⟨by have:=r.1.2;have:=a.2.2.2.2.2;omega,by have:=r.1.1;omega⟩) gz,eP a.2.2.2.2.1 (fun y r=>⟨by have:=r.1.2;have:=a.2.2.2.2.2;omega,by have:=r.1.1;omega⟩) gz,by have:=a.2.2.2.2.2;have:=gz.size;omega⟩ (fun a=>?_);clear l K;try simp only [pX]
   refine kH' 4 a ?_;refine kH' 5 a ?_;refine wpAnyH_done kM ?_ _;have FS:=zH a.2.2;clear a;go_wp2_with fail;refine uf rfl B4 B5 rfl rfl underlying37 underlying44 kM kM rfl ?_;rw [V0.o];exact ⟨O,n1,Q,P,m1,R,none,0,0,rfl,FS.o.2.1.more (fun y r=>⟨by have:=r.1.1;omega,by have:=r.1.2;have:=FS.o.2.2.2;omega⟩),FS.o.2.2.1.more (fun y r=>⟨by have:=r.1.1;omega,by have:=r.1.2;have:=FS.o.2.2.2;omega⟩),Sl.nil _ _ _,FS.o.1⟩
  | true =>
   have V1:=zH (show v=(fM out b.head u.cl).1 from HV.o);have L0:=HL.o rfl;rw [L0,← V1.o] at LK;clear L0
   go_upto_region 16 with fail
   clear bp;have LY:=zH (fun (wz:World) (hz:Below d d wz)=>LK.o W nw cw V nv cv wz Z nz cz HD.o ((SZ.o.keep (fun y r=>hz.block y (by have:=r.2;omega))).more (fun y r=>by have:=r.2;have:=hz.size;show y < _;omega)) (AW.o.fut hz).all (AB.o.fut hz).all rfl);go_cut [13,15] (fun c p wx=>∃ gv LL I H,c=.int .i64 0∧p=.pointer (some ⟨gv,0,none⟩)∧Blk wx gv 44 #[.int .i64 v.cls,.int .i64 v.marg,.slice LL I H,.bool v.en]∧Sl (ab .i32) wx (fun y=>bin d wx y∧y ≠ gv) LL I H v.lg∧d.heap.size≤gv∧Below d d wx)
   case first =>
    refine wp_region_held_drew (S:=fun w'=>Below d d w') kM ?_ (fun a=>?_)
    ·exact (qB _ _).drew
    refine tkH 0 rfl (yieldsIf_load_blk (by rfl) 29 (.tmp 11) rfl w9.heap.size 0 rfl _ (tN out.h out.v out.c Z nz cz) (tN out.h out.v out.c Z nz cz) _ (fun wz U=>BO.o.later U) underlying29 rfl kM rfl) a ?_;try simp only [pX]
    refine kH' 1 a ?_;refine tkH 2 rfl (yieldsIf_load_blk (by rfl) 49 (.tmp 87) rfl w6.heap.size 2 rfl _ (bC L ln lc true b.head.need W nw cw V nv cv) #[.slice W nw cw,.slice V nv cv,.int .i32 b.head.need] _ (fun wz U=>BB.o.later U) underlying49 rfl kM rfl) a ?_;try simp only [pX]
    refine kH' 3 a ?_;refine kH' 4 a ?_;refine kH' 5 a ?_;refine kH' 6 a ?_;refine kH' 7 a ?_;refine tkH 8 rfl (v:=?_) (Or.inl ⟨by rfl,?_⟩) a ?_;rotate_left
    ·intro wz bn;have zz:=(J.o.later bn).cell 3;simp only [gX] at zz;go_simp;try with_reducible rfl
    try simp only [pX]
    refine wpAnyH_ready (rs:=[9,13]) kM sM ?_;refine AllReadyH.cons rfl (fun K l=>?_) (AllReadyH.cons rfl (fun K l=>?_) AllReadyH.nil)
    ·go_simp;have sz:d.heap.size≤d.drew.heap.size:=a.size;refine (LY.o d.drew a).mono ?_;rintro e wa ⟨LL,I,H,rfl,sl,E⟩;have za:=E.size;refine l.out _ _ (aa E a) (fun a=>?_);clear l K;try simp only [pX]
     refine kH' 10 a ?_;refine kH' 11 a ?_;refine kH' 12 a ?_;refine rH 13 rfl (fun K l=>?_);go_simp;obtain ⟨T,ad⟩:=zB wa vZ 44;refine l.out _ _ (aa T a) (fun a=>?_);clear l K;try simp only [pX]
     refine rH 14 rfl (fun K l=>?_);rw [if_pos (by rfl)];refine oG #[.int .i64 v.cls,.int .i64 v.marg,.slice LL I H,.bool v.en] ad.o ?_;intro wc ah gc;have zc:=gc.size;simp only [World.size_alloc,World.size_drew] at zc za;have FX:=a.grown gc a.size (fun i h=>by have:=sI h;omega);refine l.out _ _ FX (fun a=>?_);clear l K;try simp only [pX]
     refine kH' 15 a ?_;refine wpAnyH_done kM ?_ _;go_wp2_with fail;go_meet
     case rel=>exact ⟨wa.heap.size,LL,I,H,rfl,rfl,ah,(qD sl (fun y r=>r.2) T gc).more (fun y r=>⟨⟨by have:=r.1;simp only [World.size_drew] at this;omega,by have:=r.2;omega⟩,by have:=r.2;omega⟩),by omega,FX⟩
    ·go_simp;have T:Below d.drew.heap.size d.drew (d.drew.alloc (.cells vZ 44)):=(qB _ _).alloc (lR _) _;have ad:=zH (Blk.now d.drew d.heap.size 44 vZ rfl);refine l.out _ _ (aa T a) (fun a=>?_);clear l K;try simp only [pX]
     refine rH 9 rfl (fun K l=>?_);go_simp;have sz:d.heap.size≤(d.drew.alloc (.cells vZ 44)).heap.size:=a.size;refine (LY.o (d.drew.alloc (.cells vZ 44)) a).mono ?_;rintro e wa ⟨LL,I,H,rfl,sl,E⟩;have za:=E.size;simp only [World.size_alloc,World.size_drew] at za sl;have bo:=zH (ad.o.later E);refine l.out _ _ (aa E a) (fun a=>?_);clear l K;try simp only [pX]
     refine kH' 10 a ?_;refine kH' 11 a ?_;refine kH' 12 a ?_;refine rH 14 rfl (fun K l=>?_);rw [if_pos (by rfl)];refine oG #[.int .i64 v.cls,.int .i64 v.marg,.slice LL I H,.bool v.en] bo.o ?_;intro wc ah gc;have zc:=gc.size;have FX:=a.grown gc a.size (fun i h=>by have:=sI h;omega);refine l.out _ _ FX (fun a=>?_);clear l K;try simp only [pX]
     refine kH' 15 a ?_;refine wpAnyH_done kM ?_ _;go_wp2_with fail;go_meet
     case rel=>exact ⟨d.heap.size,LL,I,H,rfl,rfl,ah,(eP sl (fun y r=>⟨r.2,by have:=r.1;omega⟩) gc).more (fun y r=>⟨⟨by have:=r.1;omega,by have:=r.2;omega⟩,by have:=r.1;omega⟩),lR _,FX⟩
   case rest =>
    obtain ⟨gv,LL,I,H,rfl,rfl,bw,bA,cm,hw⟩:=hcut;obtain ⟨bN,rfl⟩:∃ z,z=wc:=⟨_,rfl⟩;obtain ⟨ca,SL⟩:=zh2 bw bA;have cq:=hw.size;have lv:=bw.lt;obtain ⟨F,N,BV,al⟩:=uz4 hw F N BV al;replace SX:=zH (SX.o.keep (fun y r=>hw.block y r.1.2));replace SY:=zH (SY.o.keep (fun y r=>hw.block y r.1.2));clear bw bA hw LY LK HL HV V1 SZ HD AW AB BB BO J BZ HM HI HX HY HC
    go_upto_region 19 with fail
    refine wp_region_held_drew (S:=fun w'=>Blk w' gq 37 (pK q.1 q.2.1 (s+f) t O n1 Q q.2.2 P m1 R)∧Blk w' gv 44 #[.int .i64 v.cls,.int .i64 v.marg,.slice LL I H,.bool v.en]∧Below w w w'∧Sl (ab .i8) w' (fun y=>bin w8 d y∧y ≠ gq) O n1 Q t.data∧Sl (ab .i8) w' (fun y=>bin w8 d y∧y ≠ gq) P m1 R q.2.2.data∧bN.heap.size≤w'.heap.size∧Sl (ab .i32) w' (fun y=>bin d bN y∧y ≠ gv) LL I H v.lg) kM ?_ (fun a=>?_)
    ·exact ⟨al.o.drew,ca.o.drew,F.u.drew,SX.o.keep (fun _ _=>rfl),SY.o.keep (fun _ _=>rfl),lR _,SL.o.keep (fun _ _=>rfl)⟩
    refine tkH 0 rfl (yieldsIf_load_blk (by rfl) 37 (.tmp 14) rfl gq 0 rfl _ (pK q.1 q.2.1 (s+f) t O n1 Q q.2.2 P m1 R) (pK q.1 q.2.1 (s+f) t O n1 Q q.2.2 P m1 R) _ (fun wz U=>U.1) underlying37 rfl kM rfl) a ?_;try simp only [pX]
    refine tkH 1 rfl (yieldsIf_load_blk (by rfl) 44 (.tmp 15) rfl gv 0 rfl _ #[.int .i64 v.cls,.int .i64 v.marg,.slice LL I H,.bool v.en] #[.int .i64 v.cls,.int .i64 v.marg,.slice LL I H,.bool v.en] _ (fun wz U=>U.2.1) underlying44 rfl kM rfl) a ?_;try simp only [pX]
    refine rH 2 rfl (fun K l=>?_);rw [if_pos (by rfl)];refine oG (pK q.1 q.2.1 (s+f) t O n1 Q q.2.2 P m1 R) N.o.drew ?_;intro wy B4 gy;have zy:=gy.size;have ba:=(BV.o.drew).away gy (.inr oM);refine l.out _ _ ⟨a.1.away gy oM,a.2.1.away gy oM,a.2.2.1.grown gy (by have:=a.2.2.1.size;omega) (fun i e=>by have:=sI e;omega),eP a.2.2.2.1 (fun y r=>⟨by have:=r.1.2;have:=a.2.2.2.2.2.1;omega,by have:=r.1.1;omega⟩) gy,eP a.2.2.2.2.1 (fun y r=>⟨by have:=r.1.2;have:=a.2.2.2.2.2.1;omega,by have:=r.1.1;omega⟩) gy,by have:=a.2.2.2.2.2.1;have:=gy.size;omega,eP a.2.2.2.2.2.2 (fun y r=>⟨by have:=r.1.2;have:=a.2.2.2.2.2.1;omega,by have:=r.1.1;omega⟩) gy⟩ (fun a=>?_);clear l K;try simp only [pX]
    refine rH 3 rfl (fun K l=>?_);rw [if_pos (by rfl)];refine oG #[.int .i64 v.cls,.int .i64 v.marg,.slice LL I H,.bool v.en] ba ?_;intro wz B5 gz;replace B4:=B4.away gz (.inl oM);refine l.out _ _ ⟨a.1.away gz oM,a.2.1.away gz oM,a.2.2.1.grown gz (by have:=a.2.2.1.size;omega) (fun i e=>by have:=sI e;omega),eP a.2.2.2.1 (fun y r=>⟨by have:=r.1.2;have:=a.2.2.2.2.2.1;omega,by have:=r.1.1;omega⟩) gz,eP a.2.2.2.2.1 (fun y r=>⟨by have:=r.1.2;have:=a.2.2.2.2.2.1;omega,by have:=r.1.1;omega⟩) gz,by have:=a.2.2.2.2.2.1;have:=gz.size;omega,eP a.2.2.2.2.2.2 (fun y r=>⟨by have:=r.1.2;have:=a.2.2.2.2.2.1;omega,by have:=r.1.1;omega⟩) gz⟩ (fun a=>?_);clear l K;try simp only [pX]
    refine kH' 4 a ?_;refine kH' 5 a ?_;refine wpAnyH_done kM ?_ _;have FS:=zH a.2.2;clear a;go_wp2_with fail;refine uf rfl B4 B5 rfl rfl underlying37 underlying44 kM kM rfl ?_;exact ⟨O,n1,Q,P,m1,R,LL,I,H,rfl,FS.o.2.1.more (fun y r=>⟨by have:=r.1.1;omega,by have:=r.1.2;have:=FS.o.2.2.2.1;omega⟩),FS.o.2.2.1.more (fun y r=>⟨by have:=r.1.1;omega,by have:=r.1.2;have:=FS.o.2.2.2.1;omega⟩),FS.o.2.2.2.2.more (fun y r=>⟨by have:=r.1.1;omega,by have:=r.1.2;have:=FS.o.2.2.2.1;omega⟩),FS.o.1⟩
theorem wX {l:List af} {s:Sh3} {n k:Nat} {sl:List Sh3} {out:List ae} {d:af} (h:bS l s n=.on sl) (q:k < n) (r:jy out sl k) (p:l[k]?=some d):(dL d out).2=0:=by
 have e:l.getD k aM=d:=by rw [gD,p];rfl
 obtain ⟨o,c,t,-⟩:=mh (jL h (k+1) oM);rw [jL h k oM] at c;injection c with c
 subst c;rw [e] at t;have y:=iI t;have x:=(gO _ h).len;rw [List.length_take,Nat.min_eq_left oM] at y;obtain ⟨v,b,g,j⟩:=fJ y;have m:d.a.toNat≤k:=oM;have f:(ar d).toNat≤k:=oM;unfold bP at t;by_cases i:bu d ≠ 0
 ·rw [if_pos i] at t;exact absurd t i
 rw [if_neg i] at t;by_cases w:bi d (sl.take (k+1)).length=false
 ·rw [if_pos w] at t;cases t
 rw [if_neg w,iY m,iY f,r.sh _ m,r.sh _ f] at t;unfold dL;exact xf (Decidable.not_not.1 i) (r.ok _ m) (fun _=>r.ok _ f) t
theorem xU {l:List af} {x:ae} {sl:List Sh3} (h:bS l (hvc x) l.length=.on sl) (i:x.ok=true):∀ k,k≤l.length → ∃ out,fW l x k=.on out∧jy out sl k:=by
 intro k
 induction k with
 | zero=>intro _;exact ⟨[x],rfl,pI h i⟩
 | succ k ih =>
  intro n;obtain ⟨out,o,t⟩:=ih oM;obtain ⟨d,e⟩:∃ d,l[k]?=some d:=⟨_,List.getElem?_eq_getElem oM⟩;have a:=wX h oM t e;refine ⟨_,?_,rD h oM t e a⟩;rw [ro o e,if_neg (by simpa using a)]
theorem kS {l:List af} {x:ae} (i:x.ok=true) (h:(ao l (hvc x)).2.2=0):∃ t,eL l x=(t,(l.length:Int),0)∧t.ok=true∧(ao l (hvc x)).1.getD l.length (0,0,0)=hvc t:=by
 obtain ⟨⟨sl,p,e⟩,a⟩:∃ q,ao l (hvc x)=q:=⟨_,rfl⟩;rw [a] at h ⊢;obtain rfl:e=0:=h;obtain ⟨out,n,o⟩:=xU (pE a) i l.length (lR _);refine ⟨out.getD l.length ak,?_,o.ok _ (lR _),o.sh _ (lR _)⟩;unfold eL;rw [if_neg (by rw [i];decide),a,if_neg (not_not_intro rfl),n]
def dH (u:Bun) (k:Nat):Nat:=(u.models.getD k []).length
def nM (u:Bun) (k j:Nat):aN:=(u.models.getD k []).getD j eA
def ap (u:Bun):Nat → Nat × Nat
 | 0=>(0,0)
 | i+1=>if (ap u i).2+1=dH u (ap u i).1 then ((ap u i).1+1,0) else ((ap u i).1,(ap u i).2+1)
def ef (u:Bun) (x:ae):Nat → ae
 | 0=>x
 | i+1=>if (ap u i).2+1=dH u (ap u i).1 then x else (eL (nM u (ap u i).1 (ap u i).2).nodes (ef u x i)).1
def gG (u:Bun) (k j:Nat):Int:=((aO u).getD k []).getD j 0
def cI (u:Bun):Nat → Int
 | 0=>0
 | i+1=>cI u i+gG u (ap u i).1 (ap u i).2
def sumW (u:Bun):Nat → Nat
 | 0=>0
 | k+1=>sumW u k+dH u k
def bZ (u:Bun):Nat:=sumW u u.models.length
theorem jo {u:Bun} {k:Nat} {m:List aN} (h:u.models[k]?=some m):dH u k=m.length:=by unfold dH;rw [aX h]
theorem Ai (u:Bun) {a b:Nat} (h:a≤b):sumW u a≤sumW u b:=by
 induction h with
 | refl=>exact lR _
 | step _ ih=>exact lT ih (Nat.le_add_right _ _)
theorem qa {u:Bun} (h:dn u) {k:Nat} (e:k < u.models.length):1≤dH u k∧dH u k≤6:=by
 have:=h.models k e;exact ⟨this.one,this.six⟩
theorem ub {u:Bun} (h:dn u):∀ i,i≤bZ u → sumW u (ap u i).1+(ap u i).2=i∧(ap u i).1≤u.models.length∧((ap u i).1 < u.models.length → (ap u i).2 < dH u (ap u i).1)∧((ap u i).1=u.models.length → (ap u i).2=0)
 | 0,_=>⟨rfl,zl _,fun d=>(qa h d).1,fun _=>rfl⟩
 | i+1,hi=>by
  obtain ⟨o,n,s,r⟩:=ub h i oM;have t:(ap u i).1 < u.models.length:=by
   rcases Nat.lt_or_ge (ap u i).1 u.models.length with q|q
   ·exact q
   ·have e:(ap u i).1=u.models.length:=oM;have:=r e;rw [e,this] at o;unfold bZ at hi;omega
  have m:=s t;have a:ap u (i+1)=if (ap u i).2+1=dH u (ap u i).1 then ((ap u i).1+1,0) else ((ap u i).1,(ap u i).2+1):=rfl
  rw [a];by_cases c:(ap u i).2+1=dH u (ap u i).1
  ·rw [if_pos c];have l:sumW u ((ap u i).1+1)=sumW u (ap u i).1+dH u (ap u i).1:=rfl;exact ⟨by simp only;omega,by simp only;omega,fun q=>(qa h q).1,fun _=>rfl⟩
  ·rw [if_neg c];exact ⟨by simp only;omega,n,fun _=>by simp only;omega,fun e=>by simp only at e;omega⟩
theorem lY {u:Bun} (h:dn u) {i:Nat} (hi:i < bZ u):(ap u i).1 < u.models.length∧(ap u i).2 < dH u (ap u i).1:=by
 obtain ⟨a,s,o,n⟩:=ub h i oM;have t:(ap u i).1 < u.models.length:=by
  rcases Nat.lt_or_ge (ap u i).1 u.models.length with q|q
  ·exact q
  ·have e:(ap u i).1=u.models.length:=oM;have:=n e;rw [e,this] at a;unfold bZ at hi;omega
 exact ⟨t,o t⟩
theorem mO {u:Bun} (h:dn u):ap u (bZ u)=(u.models.length,0):=by
 obtain ⟨o,i,t,a⟩:=ub h (bZ u) (lR _);have e:(ap u (bZ u)).1=u.models.length:=by
  rcases Nat.lt_or_ge (ap u (bZ u)).1 u.models.length with q|q
  ·have n:=t q;have s:=Ai u (show (ap u (bZ u)).1+1≤u.models.length from q);have r:sumW u ((ap u (bZ u)).1+1)=sumW u (ap u (bZ u)).1+dH u (ap u (bZ u)).1:=rfl;have d:bZ u=sumW u u.models.length:=rfl;omega
  ·omega
 exact Prod.ext e (a e)
theorem mK {u:Bun} (h:dn u):1≤bZ u∧bZ u≤18:=by
 have t:∀ k,k≤u.models.length → k≤sumW u k∧sumW u k≤6*k:=by
  intro k
  induction k with
  | zero=>intro _;exact ⟨lR _,lR _⟩
  | succ k ih =>
   intro i;have:=ih oM;have:=qa h (k:=k) oM;have e:sumW u (k+1)=sumW u k+dH u k:=rfl;omega
 have:=t u.models.length (lR _);have a:=h.one;have o:=h.three;unfold bZ;omega
theorem yp {u:Bun} (h:dn u) {k j:Nat} (a:k < u.models.length) (e:j < dH u k):1≤gG u k j∧gG u k j≤300000000:=by
 obtain ⟨m,t⟩:∃ m,u.models[k]?=some m:=⟨_,List.getElem?_eq_getElem a⟩;rw [jo t] at e;have o:=h.model t;unfold gG;rw [aX (iX t),aX (mQ e)];exact lL (o.blocks j e).shapes
theorem jM {u:Bun} (h:dn u):∀ i,i≤bZ u → 0≤cI u i∧cI u i≤300000000*i
 | 0,_=>⟨Int.le_refl _,Int.le_refl _⟩
 | i+1,hi=>by
  obtain ⟨a,b⟩:=lY h (i:=i) oM;have:=yp h a b;have:=jM h i oM;have e:cI u (i+1)=cI u i+gG u (ap u i).1 (ap u i).2:=rfl;omega
theorem uG {u:Bun} (h:dn u) {x:ae} (n:x.ok=true) (o:hvc x=(u.h,u.v,u.c)):∀ i,i < bZ u → (ef u x i).ok=true∧hvc (ef u x i)=inV (u.models.getD (ap u i).1 []) (u.h,u.v,u.c) (ap u i).2∧((ap u i).2=0 → ef u x i=x)
 | 0,_=>⟨n,o,fun _=>rfl⟩
 | i+1,hi=>by
  obtain ⟨p,d,g⟩:=uG h n o i oM;obtain ⟨a,b⟩:=lY h (i:=i) oM;have s:ap u (i+1)=if (ap u i).2+1=dH u (ap u i).1 then ((ap u i).1+1,0) else ((ap u i).1,(ap u i).2+1):=rfl
  have r:ef u x (i+1)=if (ap u i).2+1=dH u (ap u i).1 then x else (eL (nM u (ap u i).1 (ap u i).2).nodes (ef u x i)).1:=rfl
  by_cases c:(ap u i).2+1=dH u (ap u i).1
  ·rw [s,r,if_pos c,if_pos c];exact ⟨n,o,fun _=>rfl⟩
  ·rw [s,r,if_neg c,if_neg c];have m:=(h.models _ a).blocks _ b;have l:=m.shapes;rw [← d] at l;obtain ⟨t,f,w,y⟩:=kS p l;have e:eL (nM u (ap u i).1 (ap u i).2).nodes (ef u x i)=(t,(((u.models.getD (ap u i).1 []).getD (ap u i).2 eA).nodes.length:Int),0):=f;rw [e];refine ⟨w,?_,fun q=>by simp only at q;omega⟩;show hvc t=cQ ((u.models.getD (ap u i).1 []).getD (ap u i).2 eA) (inV (u.models.getD (ap u i).1 []) (u.h,u.v,u.c) (ap u i).2);rw [← d,← y];rfl
theorem qU (t:ae):jU t t=true:=by unfold jU;simp
theorem p8 {t:ae} {s:Sh3} (e:t.ok=true) (a:hvc t=s):fy t s=true:=by
 subst a;unfold fy;rw [e];simp
theorem DU {u:Bun} (h:dn u) {k j:Nat} (a:k < u.models.length) (t:j < dH u k):inW u k j=inV (u.models.getD k []) (u.h,u.v,u.c) j:=by
 obtain ⟨m,e⟩:∃ m,u.models[k]?=some m:=⟨_,List.getElem?_eq_getElem a⟩;rw [jo e] at t;unfold inW;rw [Int.toNat_natCast,Int.toNat_natCast,aX (p9 e),aX (mI oM),aX e]
theorem ug {u:Bun} (h:dn u) {x:ae} (t:x.ok=true) (e:hvc x=(u.h,u.v,u.c)) {i:Nat} (hi:i < bZ u):rightW u (ap u i).1 (ap u i).2 (cI u i) x (ef u x i)=true∧mD u (ap u i).1 (ap u i).2 (cI u i) x (ef u x i)=gG u (ap u i).1 (ap u i).2:=by
 obtain ⟨a,b⟩:=lY h hi;obtain ⟨o,n,s⟩:=uG h t e i hi;have f:=jM h i oM;have m:=mK h;have l:gA u (ap u i).1 (ap u i).2=true:=by
  unfold gA;rw [decide_eq_true_iff,Int.toNat_natCast];unfold dH at b;exact ⟨by omega,by omega,by omega,by omega⟩
 have d:ft u (cI u i) x=true:=by
  unfold ft;rw [p8 t e,qT oM];rfl
 have r:rightW u (ap u i).1 (ap u i).2 (cI u i) x (ef u x i)=true:=by
  unfold rightW;rw [l,d,p8 o (by rw [DU h a b];exact n)];by_cases c:(ap u i).2=0
  ·rw [s c,qU];simp
  ·rw [qT oM];rfl
 refine ⟨r,?_⟩;unfold mD gG;rw [if_pos r,Int.toNat_natCast,Int.toNat_natCast]
end Go.Proofs.YtbecbfpoahhpnaaGreat
