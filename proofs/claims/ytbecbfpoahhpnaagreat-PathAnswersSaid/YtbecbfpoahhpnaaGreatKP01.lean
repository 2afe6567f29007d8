/- A loop over an iterator that writes a variable of its own between two rounds, and whose body is never left early: what the iterator promises, what the loop's statement then does. -/
import Derived.Test.YtbecbfpoahhpnaaGreatJ49
import Derived.Test.YtbecbfpoahhpnaaGreatKP00
set_option linter.unusedVariables false
set_option linter.unusedSimpArgs false
set_option maxRecDepth 100000
set_option maxHeartbeats 16000000
namespace Go.Proofs.YtbecbfpoahhpnaaGreat
open Go Go.RowKit Tryz
def Std {β:Type} (m:Nat) (J:β → World → Prop):Prop:=∀ s A B r,J s A → A.grownBy B r → (r=none ∨ r=some m) → J s B
def Gb {α:Type} (n:Nat) (P:Program) (gf:Nat) (lb:Array Value) (encs:α → Array Value) (V:α → Nat → World → Prop) (Z:Nat → World → World → Prop) (fin:List α → Prop) (m N:Nat) (w:World):Prop :=
 ∀ (l:Nat) (J:List α → World → Prop) (W:World),Below w w W → Std m J →
  (∀ pre x A B,J pre A → A.grownBy B none → V x A.heap.size B → pre.length < N → YieldAt Fence.wide (n - 1) P l (encs x) B fun e W'=>e=.returned (.bool true)∧J (pre ++ [x]) W'∧Z A.heap.size B W') →
  J [] W → CallsIn Fence.wide n P gf (#[.func (.yield l) #[] #[]] ++ lb) W fun e W'=>(∃ v,e=.returned v)∧∃ xs,fin xs∧J xs W'
variable {n:Nat} {P:Program}
theorem Fm {α:Type} {g:Operand} {ps:Array Tmp} {i d:Code} {Q:Go.Exit → Act → World → Prop} {a:Act} {w:World} (h1:1≤n) {gf:Nat} {lb:Array Value} (K:a.eval g=.func (.func gf) #[] lb) (eg:∀ args w,(callFunc gf args).run P w=.ok (.enter gf args) w)
  {c:α → Array Value} {V:α → Nat → World → Prop} {Z:Nat → World → World → Prop} {T:List α → Prop} {m N:Nat} (ah:Gb (n - 1) P gf lb c V Z T m N w) (hm:m < w.heap.size) (ba:∀ x,(c x).size=ps.size)
  (G:∀ {lo:Nat} {A B C:World},Z lo A B → Z lo B C → Z lo A C) (U:∀ (lo:Nat) (W:World) (l:Nat) (o:Obj),w.heap.size≤l → l < lo → Z lo W (W.putObj l o))
  (I:List α → World → Prop) (hI:Std m I) (b:OwnFrom w.heap.size I) (h0:I [] w) (A:List α → α → Nat → Act → World → Prop) (ad:∀ pre x lo z,OwnFrom w.heap.size (fun (_:Unit) W=>A pre x lo z W))
  (f:∀ (l:Nat) (pre:List α) (x:α) (S W:World),I pre S → S.grownBy W none → V x S.heap.size W → pre.length < N →
   i.wpIn (Fence.wide.inRound l) (n - 1 - 1) P (Exit.then (fun z O=>KeepsFrom w.heap.size W O∧Z S.heap.size W O∧A pre x S.heap.size z O) (fun _ _ _=>False)) { tmps:=(ps.zip (c x)).foldl (fun t (p,v)=>t.setIfInBounds p v) a.tmps,defers:=[] } W)
  (H:∀ (l:Nat) (pre:List α) (x:α) (lo:Nat) (z:Act) (W:World),pre.length < N → A pre x lo z W → d.wpIn (Fence.wide.inRound l) (n - 1 - 1) P (fun e _ W'=>e=.normal∧KeepsFrom w.heap.size W W'∧Z lo W W'∧I (pre ++ [x]) W') z W)
  (J:∀ (D:Nat) (xs:List α) (W:World),w.heap.size≤D → T xs → I xs W → W.heap[D]?=some (.deferred (some [])) → Q .normal { a with defers:={ target:=.collected D,args:=#[] } :: a.defers } W) :
  (Code.rangeFunc g ps i d).wpIn Fence.wide n P Q a w:=by
 refine wpIn_rangeFunc fun fn al=>?_;obtain ⟨R,E⟩:∃ R:LoopState → Loop,R=fun st=>{ state:=st,pending:=none,fn,tmps:=a.tmps,params:=ps,assign:=i,body:=d,defers:=w.heap.size }:=⟨_,rfl⟩;obtain ⟨X,hX⟩:∃ X,(w.alloc (.deferred (some []))).alloc (.loop (R .ready))=X:=⟨_,rfl⟩;have x1:X.heap[w.heap.size+1]?=some (.loop (R .ready)):=by
  have:=World.alloc_heap_new (w.alloc (.deferred (some []))) (.loop (R .ready));rwa [World.size_alloc,hX] at this
 have x2:X.heap[w.heap.size]?=some (.deferred (some [])):=by
  rw [← hX];exact (Below.heap_alloc _ _ _ sM).trans (World.alloc_heap_new w _)
 have xb:Below w w X:=by rw [← hX];exact ((qB _ w).alloc (lR _) _).alloc sM _
 have x0:I [] X:=by rw [← hX];exact b.alloc _ (b.alloc _ h0)
 refine ⟨w.heap.size+1,[{ target:=.collected w.heap.size,args:=#[] }],X,{ target:=.fn (.func gf) lb,args:=#[.func (.yield (w.heap.size+1)) #[] #[]] },X,gf,#[.func (.yield (w.heap.size+1)) #[] #[]] ++ lb,X,by rw [← hX,E];exact run_enterLoop_outer _ _ _ _ _,by simp only [resolve,K];simp [go_sem],fun _ _=>trivial,by simp [invoke,go_sem,eg],fun _=>h1,?_⟩;have st:∀ {k:Nat} {o:Obj} {B C:World} {r:Option Nat},w.heap.size≤k → B.heap[k]?=some o → B.grownBy C r → (r=none ∨ r=some m) → C.heap[k]?=some o:=fun {k o B C r} hk hB K hr=>(K.block k (Array.getElem?_eq_some_iff.1 hB).1 (fun e=>by rcases hr with q|q <;> rw [q] at e <;> cases e;omega)).trans hB;refine (ah (w.heap.size+1) (fun pre W=>I pre W∧W.heap[w.heap.size+1]?=some (.loop (R .ready))∧W.heap[w.heap.size]?=some (.deferred (some []))) X xb
  (fun s B C r h K hr=>⟨hI s B C r h.1 K hr,st oM h.2.1 K hr,st (lR _) h.2.2 K hr⟩) ?_ ⟨x0,x1,x2⟩).mono ?_
 ·rintro pre x B0 W y j hv F;obtain ⟨hi,hl,hk⟩:I pre W∧W.heap[w.heap.size+1]?=some (.loop (R .ready))∧W.heap[w.heap.size]?=some (.deferred (some [])):=⟨hI _ _ _ _ y.1 j (.inl rfl),st oM y.2.1 j (.inl rfl),st (lR _) y.2.2 j (.inl rfl)⟩;have an:w.heap.size+1 < B0.heap.size:=(Array.getElem?_eq_some_iff.1 y.2.1).1;have hy:=run_yield (P:=P) (args:=c x) hl (by rw [E];exact ba x);rw [E] at hy;refine ⟨fn,_,i,d,hy,roundIn_of_wpIn al (wpIn_mono (f _ pre x _ W y.1 j hv F) ?_)⟩;rintro e z O hp;cases e with
  | normal =>
   obtain ⟨k1,z1,hA⟩:=hp;have L:=k1.same _ _ oM hl rfl;have ay:=k1.same _ _ (lR _) hk rfl;refine ⟨_,run_beginRound L (by rw [E]),?_⟩;have bt:(O.putObj (w.heap.size+1) (.loop { R .ready with state:=.busy })).heap[w.heap.size+1]?=some (.loop { R .ready with state:=.busy }):=World.putObj_heap_same (Array.getElem?_eq_some_iff.1 L).1;have ax:(O.putObj (w.heap.size+1) (.loop { R .ready with state:=.busy })).heap[w.heap.size]?=some (.deferred (some [])):=(World.putObj_heap_other oM).trans ay;refine wpIn_mono (H _ pre x B0.heap.size _ _ F ((ad pre x _ z).putObj (s:=()) _ hA oM L rfl)) ?_;rintro e a₂ W3 ⟨rfl,k3,z3,ac⟩;have M:=k3.same _ _ oM bt rfl;have be:=k3.same _ _ (lR _) ax rfl;have Y:=run_endRound (P:=P) none M;rw [E] at Y;refine ⟨_,_,Y,rfl,⟨b.putObj _ ac oM M rfl,?_,(World.putObj_heap_other oM).trans be⟩,G (G z1 (G (U _ _ _ _ oM an) z3)) (U _ _ _ _ oM an)⟩;rw [E];exact World.putObj_heap_same (Array.getElem?_eq_some_iff.1 M).1
  | _=>exact hp.elim
 ·rintro e W2 ⟨⟨v,rfl⟩,xs,hf,hi,hl,hk⟩;have Y:=run_endLoop (P:=P) hl (by rw [E];simp);rw [E] at Y;exact ⟨none,_,Y,J _ xs _ (lR _) hf (b.putObj _ hi oM hl rfl) ((World.putObj_heap_other oM).trans hk)⟩
end Go.Proofs.YtbecbfpoahhpnaaGreat
namespace Go.Proofs.YtbecbfpoahhpnaaGreat
open Go.RowKit Go.ChangeShapes Go.WideShapes Go.Proofs.YtbecbfpoahhpnaaGreat.Rk Tryz
structure Ex where
 d:Exit
 L:QA
 l:Nat
 k:Nat
def Fu (x:Ex):Array Value:=#[.agg #[.int .i64 x.d.model,.int .i64 x.d.block,.int .i64 x.d.steps,.int .i64 x.d.spent,.int .i64 x.d.v.cls,.int .i64 x.d.v.margin,.slice x.L x.l x.k,.bool x.d.v.enough]]
def exV (x:Ex) (lo:Nat) (w:World):Prop:=Sl (ab .i32) w (bin lo w.heap.size) x.L x.l x.k x.d.v.logits∧EP x.d
theorem Ft (x w b:List Int) (z:Int) (k:Nat):-2147483648≤(bE x w b z).getD k 0∧(bE x w b z).getD k 0≤2147483647:=by
 unfold bE;split
 ·simp
 ·rw [gD,List.getElem?_map];cases (List.range b.length)[k]? with
  | none=>simp
  | some o=>exact eT _
theorem Gd {t:ae} {d:Hd} {cl:Int} (h:(fM t d cl).2=0):InK .i64 (fM t d cl).1.cls∧InK .i64 (fM t d cl).1.marg:=by
 obtain ⟨r,i,n,l,e,s⟩:=yO h;obtain ⟨m,f,w,y,p,v,g⟩:=oN i;have c:=Rk.bestTo_bd l l.length;rw [e] at n;have o:∀ k,-2147483648≤l.getD k 0∧l.getD k 0≤2147483647:=fun k=>by rw [← e];exact Ft _ _ _ _ k
 rw [s];simp only [ai];refine ⟨?_,?_⟩
 ·show _≤Rk.bestTo l l.length∧Rk.bestTo l l.length≤_;omega
 ·show _≤marginI l∧marginI l≤_;unfold marginI;split
  ·omega
  ·have a:=o ((refOrder l).getD 0 0);have b:=o ((refOrder l).getD 1 0);omega
def Fc (v:Ver):Vd:=⟨v.cls,v.marg,v.lg,v.en⟩
def exW (u:Bun) (t:ae) (i:Nat):Exit:=⟨(ap u i).1,(ap u i).2,(i+1:Nat),cI u (i+1),Fc (fM (eL (nM u (ap u i).1 (ap u i).2).nodes (ef u t i)).1 (nM u (ap u i).1 (ap u i).2).head u.cl).1⟩
def exU (u:Bun) (t:ae):Nat → List Exit
 | 0=>[]
 | i+1=>if (nM u (ap u i).1 (ap u i).2).exit=true then exU u t i ++ [exW u t i] else exU u t i
theorem Fa (u:Bun) (t:ae):∀ i,(exU u t i).length≤i
 | 0=>lR _
 | i+1=>by
  have:=Fa u t i;unfold exU;split
  ·rw [List.length_append];simp;omega
  ·omega
structure EK (n0 bN bP lo:Nat) (W W':World):Prop where
 size:W.heap.size≤W'.heap.size
 same:∀ k,k < W.heap.size → (k < n0 ∨ k=bN ∨ k=bP ∨ lo≤k) → W'.heap[k]?=W.heap[k]?
theorem EK.trans {t e bP lo:Nat} {A B C:World} (h:EK t e bP lo A B) (k:EK t e bP lo B C):EK t e bP lo A C:=⟨lT h.size k.size,fun i hi a=>(k.same i (Nat.lt_of_lt_of_le hi h.size) a).trans (h.same i hi a)⟩
theorem ET {w w':World} (e:Below w w w'):w.grownBy w' none:=⟨e.os,e.tape,e.output,e.size,fun k t _=>e.block k t⟩
structure Bts (a b:Nat) (k:IntKind) (w:World) (X:QA) (n c:Nat) (l:List Int):Prop where
 out:Sl (ab k) w (bin a b) X n c l
 le:b≤w.heap.size
instance kpBts {w w':World} {a b n c:Nat} {k:IntKind} {X:QA} {l:List Int}:Kp w w' (Bts a b k w X n c l) (Bts a b k w' X n c l):=⟨fun h hb=>⟨h.out.below hb fun y hy=>by have:=hy.2;have:=h.le;omega,lT h.le hb.size⟩⟩
instance stBts {w w':World} {a b n c m:Nat} {k:IntKind} {X:QA} {l:List Int}:St w w' m (Bts a b k w X n c l) (Bts a b k w' X n c l) (m < a ∨ b≤m):=⟨fun h g hm=>⟨h.out.keep fun y hy=>g.block y (by have:=hy.2;have:=h.le;omega) (fun e=>by have:=sI e;have:=hy.1;have:=hy.2;omega),lT h.le g.size⟩⟩
theorem Bts.keepZ {a b n c i o bP lo:Nat} {k:IntKind} {w w':World} {X:QA} {l:List Int} (h:Bts a b k w X n c l) (t:EK i o bP lo w w') (s:lo≤a):Bts a b k w' X n c l:=⟨h.out.keep fun y e=>t.same y (by have:=e.2;have:=h.le;omega) (.inr (.inr (.inr (by have:=e.1;omega)))),lT h.le t.size⟩
theorem Blk.keepZ {a t bP lo g:Nat} {w w':World} {e:TypeId} {cs:Array Value} (h:Blk w g e cs) (i:EK a t bP lo w w') (o:g < a ∨ g=t ∨ g=bP ∨ lo≤g):Blk w' g e cs:=⟨(i.same g h.lt o).trans h.heap⟩
theorem Fl (u:Bun) (A1:QA) (n1 c1:Nat) (B:QA) (nb cb:Nat) (C:QA) (nc cc:Nat) (t:ae) (X:QA) (K O:Nat) (Y:QA) (N P:Nat) (g I bP r mm:Nat) (w:World)
  (OK:dn u) (HF:iw u) (al:t.ok=true) (bh:hvc t=(u.h,u.v,u.c)) (bt:aw t) (an:t.data.length≤300)
  (hg:Blk w g 99 (nK u A1 n1 c1 B nb cb C nc cc)) (bs:g < r) (om:Sl bJ w (blo r) A1 n1 c1 u.models) (or:Sl fi w (blo r) B nb cb (aO u)) (oi:Sl kt w (blo r) C nc cc (fT u))
  (BN:Blk w I 32 #[.pointer (some ⟨g,0,none⟩)]) (BP:Blk w bP 37 (pK 0 0 0 t X K O t Y N P)) (sx:Sl (ab .i8) w (blo r) X K O t.data) (V:Sl (ab .i8) w (blo r) Y N P t.data) (hN:r≤I) (hP:r≤bP) (ct:I ≠ bP) (ca:1≤mm) :
  Gb mm prog 68 #[.pointer (some ⟨I,0,none⟩),.pointer (some ⟨bP,0,none⟩)] Fu exV (EK r I bP) (fun xs=>xs.map (fun x=>x.d)=exU u t (bZ u)) bP 100 w:=by
 intro lp J W hW hJ hY h0;have co:r < w.heap.size:=by have:=BN.lt;omega
 have cn:=hW.size;have bD:=BN.lt;have bH:=BP.lt;have SA:=zH (fun i (hi:i < bZ u)=>Dp OK HF al bh hi);have MB:=mK OK;obtain ⟨M,hM⟩:∃ M,bZ u=M:=⟨_,rfl⟩;obtain ⟨ML,be⟩:=zh2 (show eZ (aO u)=M from (Bj u).trans ((yR u).symm.trans hM)) (uC HF);have bA:nb≤100:=by have h1:=or.n_eq;have h2:=mS u;have h3:=OK.three;omega
 have bT:=zH (show n1=u.models.length from om.n_eq.symm);simp only [hM] at SA MB ⊢;have CI:=zH (show InK .i64 u.cl by rw [ai];have:=OK.cl;omega);have F:∀ k,k < r → W.heap[k]?=w.heap[k]?:=fun k p=>hW.block k oM;obtain ⟨G0,N0,P0,S0,HJ,HY,TT,J0⟩:=zh8 (And.intro (show Blk W g 99 (nK u A1 n1 c1 B nb cb C nc cc) from ⟨(F g bs).trans hg.heap⟩) (And.intro (om.keep fun b a=>F b a) (And.intro (or.keep fun b a=>F b a) (oi.keep fun b a=>F b a)))) (show Blk W I 32 #[.pointer (some ⟨g,0,none⟩)] from ⟨(hW.block I bD).trans BN.heap⟩) (show Blk W bP 37 (pK 0 0 0 t X K O t Y N P) from ⟨(hW.block bP bH).trans BP.heap⟩) (And.intro (sx.keep fun b a=>F b a) (V.keep fun b a=>F b a)) hJ hY (And.intro al (And.intro bt an)) h0;clear hM OK HF bh hg om or oi BN BP sx V hJ hY h0 F al bt an hW;rw [callsIn_wide];simp only [List.append_toArray,List.cons_append,List.nil_append];go_in;have cN:=N0.o.cell 0;simp only [List.getElem?_toArray,List.getElem?_cons_zero] at cN;go_wp2_with fail;refine (lW g _ B nb cb (aO u) W G0.o.1 rfl (G0.o.2.2.1.more (fun b a=>by have:b < r:=a;show b < _;omega)) bA be.o).mono ?_;rw [ML.o];rintro e ws ⟨rfl,a⟩;have zs:=a.size;obtain ⟨js,KS,PS,SS⟩:=zh4 (HJ.o _ _ _ _ J0.o (ET a) (.inl rfl)) (show ∀ k,k < r ∨ k=I → ws.heap[k]?=W.heap[k]? from fun k p=>a.block k (by rcases p with h|h <;> omega)) (show Blk ws bP 37 (pK 0 0 0 t X K O t Y N P) from ⟨(a.block bP oM).trans P0.o.heap⟩) (And.intro (S0.o.1.keep fun b h=>a.block b (by have:b < r:=h;omega)) (S0.o.2.keep fun b h=>a.block b (by have:b < r:=h;omega)));have bc:Sl (ab .i8) ws (fun b=>b < ws.heap.size∧b ≠ bP) X K O t.data:=SS.o.1.more (fun b a=>⟨by have:b < r:=a;omega,by have:b < r:=a;omega⟩);have bw:Sl (ab .i8) ws (fun b=>b < ws.heap.size∧b ≠ bP) Y N P t.data:=SS.o.2.more (fun b a=>⟨by have:b < r:=a;omega,by have:b < r:=a;omega⟩);have SZ:=zH (And.intro bc bw);clear a cN J0 P0 S0 SS bc bw be;go_wp2;go_loopw [11] (fun ii wr=>∃ (i:Nat) (pre:List Ex) (X:QA) (K O:Nat) (Y:QA) (N P:Nat),i≤M∧ii=.int .i64 i∧Hid (pre.map (fun x=>x.d)=exU u t i)∧Hid (J pre wr)∧ws.heap.size≤wr.heap.size∧Hid (∀ k,k < r ∨ k=I → wr.heap[k]?=W.heap[k]?)∧Hid (Blk wr bP 37 (pK ((ap u i).1:Nat) ((ap u i).2:Nat) (cI u i) t X K O (ef u t i) Y N P))∧Hid (Sl (ab .i8) wr (fun b=>b < wr.heap.size∧b ≠ bP) X K O t.data∧Sl (ab .i8) wr (fun b=>b < wr.heap.size∧b ≠ bP) Y N P (ef u t i).data)) (fun ii _=>M - (intOf ii).toNat)
 case atStart=>exact ⟨0,[],X,K,O,Y,N,P,zl _,rfl,zH rfl,js,lR _,KS,PS,SZ⟩
 case round =>
  clear js KS PS SZ;obtain ⟨i,pre,X,K,O,Y,N,P,hi,rfl,HE,ad,zr,KR,BP,SX⟩:=hrel;by_cases bB:i < M
  ·have p1:(i:Int) < (M:Int):=oM;have sx:xA wr X K O t.data:=SX.o.1.more (fun b a=>a.1);have V:xA wr Y N P (ef u t i).data:=SX.o.2.more (fun b a=>a.1);have bM:K≤300:=by have:=SX.o.1.n_eq;have:=TT.o.2.2;omega
   obtain ⟨k,j,ms,b,out,hp,l⟩:=SA.o i bB;rw [hp] at BP;have bO:N≤1024:=by have:=SX.o.2.n_eq;have:=l.len;omega
   have D:=zH (fun w a hm hi hc hx f=>Ad u A1 n1 c1 B nb cb C nc cc k j (cI u i) t (ef u t i) X K O Y N P g ms b out (gG u k j) w a TT.o.2.1 l.tin hm hi hc hx f l.hm l.hb l.h8 l.k8 l.right l.cost (by have:=l.sum;omega) l.val l.few bO bM TT.o.1 l.oin l.look CI.o);rw [l.next,← l.sum.2.2.2.2] at D;unfold DC at D;have eb:nM u k j=b:=by unfold nM;rw [aX l.hm,aX l.hb]
   have XE:=zH (show exU u t (i+1)=if b.exit=true then exU u t i ++ [⟨(k:Nat),(j:Nat),(i+1:Nat),cI u (i+1),Fc (fM out b.head u.cl).1⟩] else exU u t i by
    show (if (nM u (ap u i).1 (ap u i).2).exit=true then exU u t i ++ [exW u t i] else exU u t i)=_;unfold exW;rw [hp];simp only [eb,l.val])
   have XL:=zH (show pre.length≤i by have h1:=congrArg List.length HE.o;have h2:=Fa u t i;rw [List.length_map] at h1;omega);obtain ⟨m,A⟩:∃ v,(if b.exit=true then (fM out b.head u.cl).1 else pc)=v:=⟨_,rfl⟩;simp only [A] at D;obtain ⟨ex,T⟩:∃ v,b.exit=v:=⟨_,rfl⟩;rw [T] at A XE;simp only [T] at D;have VX:=zH (show ex=true → (fM out b.head u.cl).1=m from fun h=>by rw [h] at A;exact A);obtain ⟨VI,SB,KJ⟩:=zh3 (show ex=true → InK .i64 m.cls∧InK .i64 m.marg from fun h=>by have q:=Gd (l.look (T.trans h));rw [VX.o h] at q;exact q) (show 0≤cI u (i+1)∧cI u (i+1)≤7000000000 from by have:=l.sum;omega) (show k < 8∧j < 8 from ⟨l.k8,by have:=(List.getElem?_eq_some_iff.1 l.hb).1;have:=l.h8;omega⟩);clear l hp eb A T;obtain ⟨x,br⟩:∃ x,ef u t i=x:=⟨_,rfl⟩;obtain ⟨s,hs⟩:∃ s,cI u i=s:=⟨_,rfl⟩;obtain ⟨s2,ay⟩:∃ q,cI u (i+1)=q:=⟨_,rfl⟩;obtain ⟨Z,ax⟩:∃ q,ef u t (i+1)=q:=⟨_,rfl⟩;obtain ⟨⟨k2,j2⟩,ac⟩:∃ q,ap u (i+1)=q:=⟨_,rfl⟩;simp only [hs,br,ay,ax,ac] at BP D V XE SB ⊢;have NX:=zH (And.intro ac (And.intro ay ax));have kg:∀ k,k < r → wr.heap[k]?=W.heap[k]?:=fun k p=>KR.o k (.inl p);have more:∀ b,blo r b → blo wr b:=fun b a=>by have:b < r:=a;show b < _;omega
   have Q:=zH (And.intro (And.intro (And.intro (Far.refl wr) (And.intro (show Blk wr g 99 (nK u A1 n1 c1 B nb cb C nc cc) from ⟨(kg g bs).trans G0.o.1.heap⟩) (And.intro (Old.now ((G0.o.2.1.keep fun b a=>kg b a).more more)) (And.intro (Old.now ((G0.o.2.2.1.keep fun b a=>kg b a).more more)) (Old.now ((G0.o.2.2.2.keep fun b a=>kg b a).more more)))))) (And.intro BP.o (show Blk wr I 32 #[.pointer (some ⟨g,0,none⟩)] from ⟨(KR.o I (.inr rfl)).trans N0.o.heap⟩))) (And.intro (Old.now sx) (Old.now V)));clear hs br ay ax ac sx V BP SX kg more;have cN:=Q.o.1.2.2.cell 0;simp only [List.getElem?_toArray,List.getElem?_cons_zero] at cN
   go_wp2_with (refine lB 37 (.tmp 2) bP Q.o.1.2.1 underlying37 ?_)
   refine (D.o _ Q.o.1.1.2.1 Q.o.1.1.2.2.1.all Q.o.1.1.2.2.2.2.all Q.o.1.1.2.2.2.1.all Q.o.2.1.all Q.o.2.2.all).mono ?_;rintro e wd ⟨X2,n2,d2,Y2,m2,e2,L,ll,lc,rfl,sx,V,sl,a⟩;have zd:=a.size;replace Q:=zF a Q;have H:=zH (And.intro (Bts.mk sx (lR _)) (And.intro (Bts.mk V (lR _)) (Bts.mk sl (lR _))));clear a D sx V sl cN;obtain ⟨w9,bp,R,k9⟩:=nB wd pZ 37;have z9:wd.heap.size < w9.heap.size:=zL bp;obtain ⟨Q,H⟩:=uz2 k9 Q H;clear k9;obtain ⟨bR,ah,G,bd⟩:=nB w9 #[.int .i64 0,.int .i64 0,.slice none 0 0,.bool false] 44;have ci:w9.heap.size < bR.heap.size:=zL ah;obtain ⟨Q,H,R⟩:=uz3 bd Q H R;clear bd
   go_upto_region 5 with (first
    | (refine sG #[.int .i64 k2,.int .i64 j2,.int .i64 s2,.int .i64 t.h,.int .i64 t.v,.int .i64 t.c,.slice X2 n2 d2,.int .i64 Z.h,.int .i64 Z.v,.int .i64 Z.c,.slice Y2 m2 e2] R.o ?_;intro wy ba gy;have zy:=gy.size;replace Q:=zA gy Q;replace H:=zA gy H;replace G:=zA gy G;replace R:=zH ba;clear ba)
    | (refine sG #[.int .i64 m.cls,.int .i64 m.marg,.slice L ll lc,.bool m.en] G.o ?_;intro wz bz gz;have zz:=gz.size;replace Q:=zA gz Q;replace H:=zA gz H;replace R:=zA gz R;replace G:=zH bz;clear bz))
   clear bp ah;have GN:=zH (ET Q.o.1.1.1.out);obtain ⟨j3,KN⟩:=zh2 (HJ.o _ _ _ _ ad.o GN.o (.inl rfl)) (show ∀ k,k < r ∨ k=I → wz.heap[k]?=W.heap[k]? from fun k p=>(GN.o.block k (by rcases p with h|h <;> omega) (fun e=>by cases e)).trans (KR.o k p));have gk:IntKind.i64.wrap ((i:Int)+1)=((i+1:Nat):Int):=(wJ).trans sM;cases ex with
   | false =>
    go_wp2_with (first
     | (refine lG R.o ?_)
     | (refine sB 37 (.tmp 2) (.tmp 40) bP #[.int .i64 k2,.int .i64 j2,.int .i64 s2,.int .i64 t.h,.int .i64 t.v,.int .i64 t.c,.slice X2 n2 d2,.int .i64 Z.h,.int .i64 Z.v,.int .i64 Z.c,.slice Y2 m2 e2] Q.o.1.2.1 ?_;intro wf bf gf;have zf:=gf.size;have S:=zA gf H;have BF:=zH bf;have GF:=zH gf;clear bf gf))
    exact ⟨⟨i+1,pre,X2,n2,d2,Y2,m2,e2,by omega,by go_num,zH (by rw [XE.o,if_neg dM];exact HE.o),zH (HJ.o _ _ _ _ j3.out GF.o (.inr rfl)),by omega,zH (fun k p=>(GF.o.block k (by rcases p with h|h <;> omega) (fun e=>by have:=sI e;omega)).trans (KN.o k p)),by rw [NX.o.1,NX.o.2.1,NX.o.2.2];exact BF,by rw [NX.o.2.2];exact zH ⟨S.o.1.out.more (fun y f=>⟨Nat.lt_of_lt_of_le f.2 S.o.1.le,by have:=f.1;omega⟩),S.o.2.1.out.more (fun y f=>⟨Nat.lt_of_lt_of_le f.2 S.o.2.1.le,by have:=f.1;omega⟩)⟩⟩,by simp [intOf];omega⟩
   | true =>
    obtain ⟨i1,U⟩:∃ z:Int,((i+1:Nat):Int)=z:=⟨_,rfl⟩;have bo:IntKind.i64.wrap ((i:Int)+1)=i1:=gk.trans U;have I1:=zH U;have hV:exV ⟨⟨k,j,i1,s2,Fc m⟩,L,ll,lc⟩ wr.heap.size wz:=⟨H.o.2.2.out.more (fun y f=>⟨f.1,by have:=f.2;omega⟩),by obtain ⟨k8,j8⟩:=KJ.o;obtain ⟨c1,c2⟩:=VI.o rfl;have:=SB.o;exact ⟨by rw [ai];simp only;omega,by rw [ai];simp only;omega,by rw [ai];simp only;omega,by rw [ai];simp only;omega,c1,c2⟩⟩;obtain ⟨fn,ce,bb,bW,f,hR⟩:=HY.o pre ⟨⟨k,j,i1,s2,Fc m⟩,L,ll,lc⟩ wr wz ad.o GN.o hV (by have:=XL.o;omega);simp only [Fu,Fc] at f;obtain ⟨HR,X9⟩:=zh2 hR (show (pre ++ [(⟨⟨k,j,i1,s2,Fc m⟩,L,ll,lc⟩:Ex)]).map (fun x=>x.d)=exU u t (i+1) by rw [XE.o,← U,if_pos rfl,List.map_append,HE.o,VX.o rfl];rfl);have p0:=Q.o.1.2.1.cell 0;have bl:=Q.o.1.2.1.cell 1;have q2:=R.o.cell 2;obtain ⟨v0,v1,v2,v3⟩:=uc4 G 0 1 2 3;simp only [gX] at p0 bl q2 v0 v1 v2 v3;clear hV hR XE HE VX VI SB KJ gk U;rw [← wpIn_wide (n:=mm)]
    gi_wp2
    refine HR.o.mono ?_;rintro e w4 ⟨rfl,bn,E⟩;obtain ⟨J4,bg,bx,N4,K4⟩:=zh5 bn (R.o.keepZ E (.inr (.inr (.inr oM)))) (Q.o.1.2.1.keepZ E (.inr (.inr (.inl rfl)))) (And.intro (H.o.1.keepZ E (lR _)) (H.o.2.1.keepZ E (lR _))) (show ∀ k,k < r ∨ k=I → w4.heap[k]?=W.heap[k]? from fun k p=>(E.same k (by rcases p with h|h <;> omega) (by rcases p with h|h;exact .inl h;exact .inr (.inl h))).trans (KN.o k p));have z4:=E.size;clear bn E p0 bl q2 v0 v1 v2 v3 Q H R G j3
    gi_wp2
    have gk:IntKind.i64.wrap ((i:Int)+1)=((i+1:Nat):Int):=bo.trans I1.o.symm;clear bo
    go_wp2_with (first
     | (refine lG bg.o ?_)
     | (refine sB 37 (.tmp 2) (.tmp 40) bP #[.int .i64 k2,.int .i64 j2,.int .i64 s2,.int .i64 t.h,.int .i64 t.v,.int .i64 t.c,.slice X2 n2 d2,.int .i64 Z.h,.int .i64 Z.v,.int .i64 Z.c,.slice Y2 m2 e2] bx.o ?_;intro wf bf gf;have zf:=gf.size;have S:=zA gf N4;have BF:=zH bf;have GF:=zH gf;clear bf gf))
    exact ⟨⟨i+1,_,X2,n2,d2,Y2,m2,e2,by omega,by go_num,X9,zH (HJ.o _ _ _ _ J4.o GF.o (.inr rfl)),by omega,zH (fun k p=>(GF.o.block k (by rcases p with h|h <;> omega) (fun e=>by have:=sI e;omega)).trans (K4.o k p)),by rw [NX.o.1,NX.o.2.1,NX.o.2.2];exact BF,by rw [NX.o.2.2];exact zH ⟨S.o.1.out.more (fun y f=>⟨Nat.lt_of_lt_of_le f.2 S.o.1.le,by have:=f.1;omega⟩),S.o.2.out.more (fun y f=>⟨Nat.lt_of_lt_of_le f.2 S.o.2.le,by have:=f.1;omega⟩)⟩⟩,by simp [intOf];omega⟩
  ·obtain rfl:M=i:=oM;have p1:¬ (M:Int) < (M:Int):=oM;go_wp2_with fail;refine bodyPost_end (results_none rfl _ _ _) rfl ?_;exact ⟨⟨_,rfl⟩,pre,HE.o,ad.o⟩
end Go.Proofs.YtbecbfpoahhpnaaGreat
