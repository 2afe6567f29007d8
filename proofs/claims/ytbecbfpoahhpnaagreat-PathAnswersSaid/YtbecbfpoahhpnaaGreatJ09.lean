/- Three weights moved over rows (layer 15): wheel.Many where there are rows, at most 1024, as many as weights, all as long. -/
import Derived.Test.YtbecbfpoahhpnaaGreatJ08
import Derived.Test.YtbecbfpoahhpnaaGreatJ01
set_option linter.unusedVariables false
set_option linter.unusedSimpArgs false
set_option maxRecDepth 100000
set_option maxHeartbeats 16000000
namespace Go.Proofs.YtbecbfpoahhpnaaGreat
open Go.RowKit Go.ChangeShapes Go.WideShapes Fx Tryz
def tC4:Ty (Nat → Fx.Wd) where
 size:=4
 rep:=fun _ _ cs f=>cs=(c4 f).toList
 len:=by rintro w S cs x rfl;rfl
 keep:=fun h _=>h
 more:=fun h _=>h
 one:=by
  rintro w S cs x rfl u hu;simp only [c4,List.mem_cons,List.not_mem_nil,or_false] at hu;rcases hu with rfl|rfl|rfl|rfl <;> rfl
def tW3:Ty W3 where
 size:=3
 rep:=fun _ _ cs v=>cs=[.int .i8 v.1,.int .i8 v.2.1,.int .i8 v.2.2]∧In3 v
 len:=by rintro w S cs x ⟨rfl,-⟩;rfl
 keep:=fun h _=>h
 more:=fun h _=>h
 one:=by
  rintro w S cs x ⟨rfl,-⟩ u hu;simp only [List.mem_cons,List.not_mem_nil,or_false] at hu;rcases hu with rfl|rfl|rfl <;> rfl
theorem Em:EI prog 363 366 (.agg #[.complex .f64 0 0,.complex .f64 0 0,.complex .f64 0 0,.complex .f64 0 0]) 4 64:=⟨underlying363,by kernel_rfl,rfl,by decide⟩
theorem tq:EI prog 318 2 (.int .i64 0) 1 8:=⟨underlying318,by kernel_rfl,rfl,by decide⟩
theorem Sl.w3_at {w:World} {S:Nat → Prop} {A:QA} {n i:Nat} {r:List W3} (h:Sl tW3 w S A n i r) (k:Nat) (c:k < n) :
  ∃ b off t a o,A=some ⟨b,off,none⟩∧S b∧r.getD k (0,0,0)=(t,a,o)∧In3 (t,a,o)∧w.cell? ⟨b,off+k*3,none⟩=some (.int .i8 t)∧w.cell? ⟨b,off+k*3+1,none⟩=some (.int .i8 a)∧w.cell? ⟨b,off+k*3+2,none⟩=some (.int .i8 o):=by
 obtain ⟨⟨t,a,o⟩,b,off,vs,f,d,l,-,⟨rfl,m⟩,-,s⟩:=h.cells k c dM;have e:r.getD k (0,0,0)=(t,a,o):=by rw [gD,f];rfl
 exact ⟨b,off,t,a,o,d,l,e,m,s 0 _ rfl,s 1 _ rfl,s 2 _ rfl⟩
theorem Old.row {α:Type} {t:Ty α} {w0 w w':World} {A:QA} {n a:Nat} {l:List α} {r:Option Nat} (h:Old w0 t w A n a l) (i:w.grownBy w' r) (s:∀ k,r=some k → w0.heap.size≤k):Old w0 t w' A n a l :=
 ⟨h.out.keep fun b o=>i.block b (Nat.lt_of_lt_of_le o h.le) (fun e=>by have:=s b e.symm;unfold blo at o;omega),lT h.le i.size⟩
theorem Far.row {w0 w w':World} {r:Option Nat} (h:Far w0 w) (e:w.grownBy w' r) (t:∀ k,r=some k → w0.heap.size≤k):Far w0 w':=⟨h.out.grown e h.size t⟩
def mJ (xs:List (List Int)) (ws:List W3) (m k:Nat):List Int:=(List.range (m - 2)).map fun p=>eI xs ws p k
theorem Aq {xs:List (List Int)} {e:List W3} (h:fX xs e) (p:Nat):∀ k,(eI xs e p k).natAbs≤k*12582912
 | 0=>by simp [eI]
 | k+1=>by
  have d:=Aq h p k;obtain ⟨s,r,t3⟩:=h.tap k;have t:=h.row k p;have o:=h.row k (p+1);have i:=h.row k (p+2);rw [bj] at s r t3;rw [mH] at t o i;have l:=natAbs_mul_le (a:=(xs.getD k []).getD p 0) (b:=(e.getD k (0,0,0)).1) (m:=32768) (n:=128) oM oM;have c:=natAbs_mul_le (a:=(xs.getD k []).getD (p+1) 0) (b:=(e.getD k (0,0,0)).2.1) (m:=32768) (n:=128) oM oM;have f:=natAbs_mul_le (a:=(xs.getD k []).getD (p+2) 0) (b:=(e.getD k (0,0,0)).2.2) (m:=32768) (n:=128) oM oM;show (eI xs e p k+_).natAbs≤_;omega
theorem Ap {xs:List (List Int)} {e:List W3} (h:fX xs e) (p k:Nat) (t:k≤1024):InK .i64 (eI xs e p k):=by
 have:=Aq h p k;rw [ai];omega
theorem ra (f:Nat → Int) (a c:Nat) (e:c=1 ∨ c=2):(List.range a).map f ++ [f a,f (a+1)].take c=(List.range (a+c)).map f:=by
 rcases e with rfl|rfl <;> simp [List.range_succ]
theorem Bl (X:QA) (n cx:Nat) (xs:List (List Int)) (T:QA) (ct:Nat) (a:List W3) (m:Nat) (w:World)
  (hx:Sl (tSlice (ab .i16)) w (blo w) X n cx xs) (ht:Sl tW3 w (blo w) T n ct a) (hn:1≤n) (bl:n≤1024) (hm:∀ i,i < n → (xs.getD i []).length=m) (cD:m≤1000000) :
  Calls prog 240 #[.slice X n cx,.slice T n ct] w (RetSl (ab .i64) w (mJ xs a m n)):=by
 have AL:=zH (fun w' (B:Below w w w')=>yg X n cx m xs w' (hx.later B (lR _)) hn hm);obtain ⟨bx,ox,A0,q0,rfl,cB,bN,bc⟩:=hx.row_at 0 oM;rw [hm 0 oM,Nat.add_zero] at bN;rw [hm 0 oM] at bc;obtain ⟨bt,ot,-,-,-,rfl,cA,-,-,-⟩:=ht.w3_at 0 oM;have cH:maxLen≤9223372036854775807:=by decide
 have p1:(n:Int)≤1024:=oM;have p2:(1:Int)≤n:=oM;have q1:=hx.cap_le;have q2:=hx.max_le;have q3:=ht.cap_le;have q4:=ht.max_le;obtain ⟨y,s,O0⟩:=zh3 (Old.now hx) (Old.now ht) (Old.now bc);have l:=zW w;have HM:=zH hm;clear hx ht bc hm;go_in;go_wp2_with fail;go_step3;go_wp2_with fail;refine (AL.o _ (qB _ _)).mono ?_;rintro e w1 ⟨rfl,rfl⟩;go_wp2_with fail;clear bN;go_loopw [6,36] (fun u i wr=>∃ k:Nat,k≤n∧i=.int .i64 k∧Far w1 wr∧Old w1 tW3 wr (some ⟨bt,ot,none⟩) n ct a∧Old w1 (tSlice (ab .i16)) wr (some ⟨bx,ox,none⟩) n cx xs∧Own tC4 wr (fun _=>False) w1.heap.size 366 u k ((a.take k).map fun v=>ofW (t3 v))) (fun _ i _=>n - (intOf i).toNat)
 case atStart=>exact ⟨0,zl _,rfl,l.o,s.o,y.o,Own.nil _ _ _ _ _⟩
 case round =>
  obtain ⟨k,hk,rfl,hf,F,G,g⟩:=hrel;clear l s y;obtain ⟨l,s,y,q⟩:=zh4 hf F G g;clear hf F G g;by_cases bd:k < n
  ·have p3:(k:Int) < n:=oM;obtain ⟨b',L,a1,a2,a3,J,-,ca,⟨i1,i2,i3⟩,d1,d2,d3⟩:=s.o.out.w3_at k bd;simp only [Option.some.injEq,Addr.mk.injEq,and_true] at J;obtain ⟨rfl,rfl⟩:=J;have TU:=zH (fun w=>pL a1 a2 a3 w i1 i2 i3);go_wp2_with fail;refine qM (TU.o _) fun C B=>?_;have h5:Below wr wr C:=aa B ((qB _ _).alloc (lR _) _);have H5:=zH h5;clear B d1 d2 d3;obtain ⟨l,s,y⟩:=uz3 h5 l s y;clear h5;have cf:=zH (q.o.below H5.o (lR _) (fun _ h=>h.elim));obtain ⟨ff,bR⟩:∃ ff,ofW (w3Z a1 a2 a3)=ff:=⟨_,rfl⟩;rw [bR];unfold c4 cv
   go_wp2_with (at_builtin;refine wpList_push (W:=C) (cs:=c4 ff) (E:=366) (t:=tC4) (S:=fun _=>False) (base:=w1.heap.size) rfl (.tmp 40) (.tmp 43) rfl Em rfl cf.o 1 rfl ff rfl mL oM (by have:=l.o.size;omega) (fun _ h=>h.elim) ?_;intro v' wz d Q bH)
   have LT:=fun j h=>(q.o.lt j h).1;have an:((a.take k).map fun v=>ofW (t3 v)) ++ [ff]=(a.take (k+1)).map fun v=>ofW (t3 v):=by
    have hq:a[k]?=some (a1,a2,a3):=by
     have hl:k < a.length:=by rw [s.o.out.n_eq];exact bd
     rw [List.getElem?_eq_getElem hl];rw [gD,List.getElem?_eq_getElem hl] at ca;simpa using ca
    rw [bG _ _ _ hq,List.map_append,← bR];rfl
   rw [an] at d;exact ⟨⟨k+1,by omega,by go_num,l.o.row Q LT,s.o.row Q LT,y.o.row Q LT,d⟩,by simp [intOf];omega⟩
  ·obtain rfl:n=k:=oM;have an:(a.take n).map (fun v=>ofW (t3 v))=a.map fun v=>ofW (t3 v):=by rw [List.take_of_length_le (by rw [s.o.out.n_eq];omega)]
   obtain ⟨TA,M,rfl,bw⟩:=q.o.sl (S':=bin w1 wr) dM (fun b h1 h2=>⟨h1,h2⟩) (fun _ h=>h.elim);rw [an] at bw;have TS:=zH (show New w1 tC4 wr TA n M (a.map fun v=>ofW (t3 v)) from ⟨bw⟩);clear bw q an;obtain ⟨b',L,A',c',J,-,hc,hs⟩:=y.o.out.row_at 0 oM;simp only [Option.some.injEq,Addr.mk.injEq,and_true] at J;obtain ⟨rfl,rfl⟩:=J;rw [HM.o 0 oM,Nat.add_zero] at hc;rw [HM.o 0 oM] at hs;have cp:=hs.cap_le;have ck:=hs.max_le;have RO:fX xs a:=by
    refine ⟨fun r i=>?_,fun r=>?_⟩
    ·by_cases hr:r < n
     ·obtain ⟨_,_,_,_,-,-,-,hs⟩:=y.o.out.row_at r hr;exact hs.allK i
     ·rw [show xs.getD r []=[] by rw [gD,List.getElem?_eq_none (by rw [y.o.out.n_eq];omega)];rfl];rw [mH];simp
    ·by_cases hr:r < n
     ·obtain ⟨_,_,a1,a2,a3,-,-,e,hi,-⟩:=s.o.out.w3_at r hr;rw [e];exact hi
     ·rw [show a.getD r (0,0,0)=(0,0,0) by rw [gD,List.getElem?_eq_none (by rw [s.o.out.n_eq];omega)];rfl];exact ⟨⟨by decide,by decide⟩,⟨by decide,by decide⟩,⟨by decide,by decide⟩⟩
   have R:=zH RO;clear RO s bd;go_wp2_with fail;refine (pJ m _ oM oM).mono ?_;rintro e H ⟨rfl,rfl⟩;obtain ⟨NB,ac⟩:∃ x:Nat,gL m=(x:Int):=⟨(gL m).toNat,by unfold gL;split <;> omega⟩;have be:(m < 3 → NB=0)∧(3≤m → NB=(m - 1) / 2):=by
    unfold gL at ac;split at ac <;> omega
   rw [ac];have P:=zH be;clear be ac;go_wp2_with fail;clear hc hs cp ck p1 p2 ;have FN:=l;clear l;have l:=zW H;obtain ⟨s,y⟩:=zh2 (show Old H tC4 H TA n M (a.map fun v=>ofW (t3 v)) from Old.now TS.o.old) (show Old H (tSlice (ab .i16)) H (some ⟨bx,ox,none⟩) n cx xs from Old.now y.o.all);clear TS;obtain ⟨al,bg,cw⟩:∃ b o,TA=some ⟨b,o,none⟩:=by
    obtain ⟨f,b,o,vs,-,h,-⟩:=s.o.out.cells 0 oM dM;exact ⟨b,o,h⟩
   subst cw;have q5:=s.o.out.cap_le;have q6:=s.o.out.max_le;go_loopw [5,51] (fun u i wr=>∃ k:Nat,k≤NB∧i=.int .i64 k∧Far H wr∧Old H tC4 wr (some ⟨al,bg,none⟩) n M (a.map fun v=>ofW (t3 v))∧Old H (tSlice (ab .i16)) wr (some ⟨bx,ox,none⟩) n cx xs∧Own (ab .i64) wr (fun _=>False) H.heap.size 2 u (min (k*2) (m - 2)) ((List.range (min (k*2) (m - 2))).map fun p=>eI xs a p n)) (fun _ i _=>NB - (intOf i).toNat)
   case atStart=>exact ⟨0,zl _,rfl,l.o,s.o,y.o,by rw [Nat.zero_mul,Nat.zero_min];exact Own.nil _ _ _ _ _⟩
   case round =>
    obtain ⟨i,hi,rfl,hf,F,G,g⟩:=hrel;clear l s y;obtain ⟨l,s,y,q⟩:=zh4 hf F G g;clear hf F G g;by_cases cC:i < NB
    ·have p4:(i:Int) < NB:=oM;have p5:(NB:Int)≤1000000:=by have:=P.o;omega
     have cj:=l.o.size;go_wp2_with fail;obtain ⟨wo,co⟩:∃ x,x=wr:=⟨_,rfl⟩;rw [← co] at l s y q ⊢;clear co cj;have ad:=fun j h=>(q.o.lt j h)
     have ay:H.heap.size≤wo.heap.size:=l.o.size;have FO:=zW wo;obtain ⟨ch,Z,O,bs⟩:=nB wo #[.complex .f64 0 0,.complex .f64 0 0,.complex .f64 0 0,.complex .f64 0 0] 366;obtain ⟨l,s,y⟩:=uz3 bs l s y;clear bs;rw [Z];have ci:Below wo wo ch:=by rw [← Z];exact (qB _ _).alloc (lR _) _
     replace q:=zH (q.o.below ci (lR _) (fun _ h=>h.elim));clear Z ci FO;obtain ⟨gs,bn⟩:∃ x,wo.heap.size=x:=⟨_,rfl⟩;rw [bn] at O ad ay ⊢;clear bn;replace O:=zH (show Blk ch gs 366 (c4 (gR xs a (i*2) 0)) from O.o);go_wp2;go_loopw [56] (fun kk wr=>∃ k:Nat,k≤n∧kk=.int .i64 k∧Far H wr∧Old H tC4 wr (some ⟨al,bg,none⟩) n M (a.map fun v=>ofW (t3 v))∧Old H (tSlice (ab .i16)) wr (some ⟨bx,ox,none⟩) n cx xs∧Own (ab .i64) wr (fun _=>False) H.heap.size 2 u5 (min (i*2) (m - 2)) ((List.range (min (i*2) (m - 2))).map fun p=>eI xs a p n)∧Blk wr gs 366 (c4 (gR xs a (i*2) k))) (fun kk _=>n - (intOf kk).toNat)
     case atStart=>exact ⟨0,zl _,rfl,l.o,s.o,y.o,q.o,O.o⟩
     case round =>
      obtain ⟨k,hk,rfl,hf,F,G,g,bM⟩:=hrel;clear l s y q O;obtain ⟨l,s,y,q,O⟩:=zh5 hf F G g bM;clear hf F G g bM;by_cases br:k < n
      ·have p6:(k:Int) < n:=oM;obtain ⟨b',L,A',c',J,-,ax,Y⟩:=y.o.out.row_at k br;simp only [Option.some.injEq,Addr.mk.injEq,and_true] at J;obtain ⟨rfl,rfl⟩:=J;rw [HM.o k br] at ax Y;have cc:=zH Y;clear Y;obtain ⟨fk,b',L,vs,N,J,ba,-,cq,-,ce⟩:=s.o.out.cells k br dM;simp only [Option.some.injEq,Addr.mk.injEq,and_true] at J;obtain ⟨rfl,rfl⟩:=J;obtain rfl:vs=(c4 fk).toList:=cq;have cm:=zH ce;clear ce;have bT:fk=ofW (t3 (a.getD k (0,0,0))):=by
        rw [List.getElem?_map] at N;rw [gD];cases hq:a[k]? with
        | none=>rw [hq] at N;cases N
        | some v=>rw [hq] at N;exact (sI N).symm
       subst bT;have bo:al < H.heap.size:=ba;have cr:=zH bo;clear ba bo N;have AT:=zH (fun w' (B:Below wr.drew.heap.size wr.drew w')=>vM A' m c' (xs.getD k []) (i*2) w' (((cc.o.more (dV y.o.le)).keep (w':=wr.drew) (fun _ _=>rfl)).later B (lR _)) (by have:=P.o;omega));rw [show ((i*2:Nat):Int)=IntKind.i64.wrap ((i:Int)*2) by rw [IntKind.wrap_i64];omega] at AT;go_wp2_with fail;refine aP (fun w'=>Below wr.drew.heap.size wr.drew w') 12 kM ?_ (fun z=>?_)
       ·exact qB _ _
       refine tkT 0 rfl (yieldsIf_load_blk kM 366 (.tmp 10) rfl gs 0 rfl 366 (c4 (gR xs a (i*2) k)) (c4 (gR xs a (i*2) k)) _ (fun w hw=>O.o.draw.below hw O.o.draw.lt) underlying366 rfl (by show _=some 4;kernel_rfl) rfl) z ?_;try simp only [pX]
       refine kT' 1 z ?_;refine kT' 2 z ?_;refine kT' 3 z ?_;refine kT' 6 z ?_;refine kT' 7 z ?_;refine kT' 8 z ?_;refine tkT 9 rfl (yieldsIf_load_mid kM 366 (.tmp 69) rfl al (bg+k*4) rfl (c4 (ofW (t3 (a.getD k (0,0,0))))).toList _ (fun w hw j v hv=>gT hw (by rw [Nat.add_assoc];exact cm.o j v hv) (Nat.lt_of_lt_of_le cr.o s.o.le)) underlying366 rfl (by show _=some 4;kernel_rfl)) z ?_;try simp only [pX]
       refine rT 4 (fun K U=>?_);go_simp;refine qM (AT.o _ z) fun w' B=>?_;refine xK U (zR B z) fun z=>?_;clear U K;refine rT 5 (fun K U=>?_);go_simp;refine qM (oT (at4 (xs.getD k []) (i*2)) 32768 _ (R.o.at4 k _) dM) fun w' B=>?_;refine xK U (zR B z) fun z=>?_;clear U K;refine rT 10 (fun K U=>?_);go_simp;refine qM (rM (ofW (at4 (xs.getD k []) (i*2))) (ofW (t3 (a.getD k (0,0,0)))) _ (fun j hj=>(nR R.o (i*2) k j).1)) fun w' B=>?_;refine xK U (zR B z) fun z=>?_;clear U K;refine rT 11 (fun K U=>?_);go_simp;refine (tE (gR xs a (i*2) k) (timesW (ofW (at4 (xs.getD k []) (i*2))) (ofW (t3 (a.getD k (0,0,0))))) _ (fun j hj=>CD R.o (i*2) k oM j)).mono ?_;rintro e w' ⟨rfl,B⟩;refine xK U (zR B z) fun z=>?_;clear U K;refine wpAnyT_tail _ _ rfl rfl kM ?_;have HS:=zH z;clear z B
       go_wp2_with (refine wpList_store_all rfl 366 (.tmp 10) (.tmp 72) rfl gs (c4 (gR xs a (i*2) (k+1))) rfl rfl _ _ (O.o.draw.below HS.o O.o.draw.lt) rfl (by show _=some 4;kernel_rfl) (kw _) ?_;intro C B5 g5)
       have NE:u5.ownBlock=none ∨ u5.ownBlock ≠ some gs:=by
        cases h:u5.ownBlock with
        | none=>exact .inl rfl
        | some j=>exact .inr fun e=>by have:=(ad j h).2;have:=sI e;omega
       exact ⟨⟨k+1,by omega,by go_num,(l.o.draw.fut HS.o).away g5 ay,(s.o.draw.fut HS.o).away g5 ay,(y.o.draw.fut HS.o).away g5 ay,((q.o.heap (w':=wr.drew) rfl).below HS.o (lR _) (fun _ h=>h.elim)).kept g5 NE (fun _ h=>h.elim),B5⟩,by simp [intOf];omega⟩
      ·obtain rfl:n=k:=oM;have AO:=zH (fun j=>sV R.o (i*2) n bl j)
       go_wp2_with (first|(refine wpList_load_blk rfl 366 (.tmp 10) rfl gs 0 rfl _ (c4 (gR xs a (i*2) n)) (c4 (gR xs a (i*2) n)) _ O.o underlying366 rfl (by show _=some 4;kernel_rfl) rfl ?_))
       refine qM (st _ (gS xs a (i*2) n) (n*134217728) _ (fun j _=>(AO.o j).1) (fun j _=>(AO.o j).2) oM) fun C B=>?_;have H5:=zH B;obtain ⟨l,s,y⟩:=uz3 B l s y;clear B;replace q:=zH (q.o.below H5.o (lR _) (fun _ h=>h.elim));clear H5 AO O;obtain ⟨z1,z2⟩:=yj xs a (i*2) n;rw [z1,z2];clear z1 z2;have i1:=Ap R.o (i*2) n bl;have i2:=Ap R.o (i*2+1) n bl;obtain ⟨x1,bp⟩:∃ x,eI xs a (i*2) n=x:=⟨_,rfl⟩;obtain ⟨x2,bb⟩:∃ x,eI xs a (i*2+1) n=x:=⟨_,rfl⟩;rw [bp] at i1 ⊢;rw [bb] at i2 ⊢;have m3:3≤m:=by have:=P.o;omega
       have m4:i*2+3≤m:=by have:=P.o;omega
       obtain ⟨b',L,A',c',J,-,ax,Y⟩:=y.o.out.row_at 0 oM;simp only [Option.some.injEq,Addr.mk.injEq,and_true] at J;obtain ⟨rfl,rfl⟩:=J;rw [HM.o 0 oM,Nat.add_zero] at ax;clear Y;have m5:(m:Int)≤1000000:=oM;have m6:(i:Int)*2+3≤m:=oM;have cz:bx < C.heap.size:=World.block_lt_of_cell? C ⟨bx,ox,none⟩ ax;obtain ⟨D,V⟩:∃ c:Nat,c=if i*2+4≤m then 2 else 1:=⟨_,rfl⟩
       have bO:1≤D∧D≤2∧min (i*2) (m - 2)+D=min ((i+1)*2) (m - 2):=by
        split at V <;> omega
       have bD:∀ W:World,W=C.alloc (.cells #[.int .i64 x1,.int .i64 x2] 372) → Sl (ab .i64) W (fun _=>True) (some ⟨C.heap.size,0,none⟩) D 2 ([x1,x2].take D):=by
        rintro W rfl;have h0:Sl (ab .i64) (C.alloc (.cells #[.int .i64 x1,.int .i64 x2] 372)) (fun _=>True) (some ⟨C.heap.size,0,none⟩) 2 2 [x1,x2] :=
         Sl.lit [x1,x2] (kV _ _ _ rfl) rfl (by intro x hx;simp at hx;rcases hx with rfl|rfl;exact i1;exact i2) trivial rfl rfl (by show 2≤maxLen;decide)
        exact h0.sub 0 D 0 2 rfl oM oM (lR _)
       obtain ⟨bA,bz,bB,ah⟩:=zh4 V bO bD (And.intro bp bb);clear V bO bD i1 i2 bp bb;by_cases h4:i*2+4≤m
       ·have bh:D=2:=by rw [bA.o,if_pos h4]
        subst bh;have h5:(2:Int)≤(m:Int) - 2 - (i:Int)*2:=oM
        go_wp2_with (at_builtin;refine fu (k:=.i64) (S:=fun _=>True) (A:=some ⟨C.heap.size,0,none⟩) (m:=2) (c:=2) rfl (.tmp 76) (.tmp 86) rfl tq rfl (q.o.below ((qB _ _).alloc (lR _) _) (lR _) (fun _ h=>h.elim)) rfl (bB.o _ rfl) mL oM (by have:=l.o.size;simp;omega) ?_;intro v' wz d Q bH)
        have I:=fun j h=>(ad j h).1;have KW:Below C C (C.alloc (.cells #[.int .i64 x1,.int .i64 x2] 372)):=(qB _ _).alloc (lR _) _;have EL:=ra (fun p=>eI xs a p n) (min (i*2) (m - 2)) 2 oM;rw [show min (i*2) (m - 2)=i*2 by omega] at EL;simp only [ah.o.1,ah.o.2] at EL;have EM:=bz.o.2.2;rw [show min (i*2) (m - 2)=i*2 by omega] at d EM;rw [EL,EM] at d;exact ⟨⟨i+1,by omega,by go_num,(l.o.fut KW).row Q I,(s.o.fut KW).row Q I,(y.o.fut KW).row Q I,d⟩,by simp [intOf];omega⟩
       ·have bh:D=1:=by rw [bA.o,if_neg h4]
        subst bh;have h5:¬ (2:Int)≤(m:Int) - 2 - (i:Int)*2:=oM;have h6:(m:Int) - 2 - (i:Int)*2=1:=oM
        go_wp2_with (at_builtin;refine fu (k:=.i64) (S:=fun _=>True) (A:=some ⟨C.heap.size,0,none⟩) (m:=1) (c:=2) rfl (.tmp 76) (.tmp 86) rfl tq rfl (q.o.below ((qB _ _).alloc (lR _) _) (lR _) (fun _ h=>h.elim)) rfl (bB.o _ rfl) mL oM (by have:=l.o.size;simp;omega) ?_;intro v' wz d Q bH)
        have I:=fun j h=>(ad j h).1;have KW:Below C C (C.alloc (.cells #[.int .i64 x1,.int .i64 x2] 372)):=(qB _ _).alloc (lR _) _;have EL:=ra (fun p=>eI xs a p n) (min (i*2) (m - 2)) 1 oM;rw [show min (i*2) (m - 2)=i*2 by omega] at EL;simp only [ah.o.1,ah.o.2] at EL;have EM:=bz.o.2.2;rw [show min (i*2) (m - 2)=i*2 by omega] at d EM;rw [EL,EM] at d;exact ⟨⟨i+1,by omega,by go_num,(l.o.fut KW).row Q I,(s.o.fut KW).row Q I,(y.o.fut KW).row Q I,d⟩,by simp [intOf];omega⟩
    ·obtain rfl:NB=i:=oM;have cy:min (NB*2) (m - 2)=m - 2:=by have:=P.o;omega
     have q:=zH (show Own (ab .i64) wr (fun _=>False) H.heap.size 2 u5 (m - 2) (mJ xs a m n) by have:=q.o;rw [cy] at this;exact this);obtain ⟨OA,cn,rfl,bW⟩:=q.o.sl (S':=bin w1 wr) dM (fun b h1 h2=>⟨lT FN.o.size h1,h2⟩) (fun _ h=>h.elim);obtain ⟨cd,FE⟩:=zh2 bW (FN.o.trans l.o);clear bW q;go_wp2_with fail;go_step3;go_wp2_with fail;rw [Exit.noGoto_ret];go_ret;exact ⟨OA,m - 2,cn,rfl,cd.o,FE.out.out⟩
end Go.Proofs.YtbecbfpoahhpnaaGreat
