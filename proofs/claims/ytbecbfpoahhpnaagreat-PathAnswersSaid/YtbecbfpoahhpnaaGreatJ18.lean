/- 'T{x}' of one struct: a block of its cells (a law for the operation, so that the walk need not run it). -/
import Derived.Test.YtbecbfpoahhpnaaGreatJ17
import Derived.Test.YtbecbfpoahhpnaaGreatJ14
set_option linter.unusedVariables false
set_option linter.unusedSimpArgs false
set_option maxRecDepth 100000
set_option maxHeartbeats 16000000
namespace Go.Proofs.YtbecbfpoahhpnaaGreat
open Go Go.RowKit Tryz
theorem oS (off:Nat):∀ (l:List Value) (k:Nat) (cs:Array Value),(l.zipIdx k).foldl (fun cs (x:Value × Nat)=>cs.setIfInBounds (off+x.2) x.1) cs=lj cs (off+k) l
 | [],_,_=>rfl
 | v :: r,k,cs=>by
  rw [List.zipIdx_cons,List.foldl_cons,oS off r (k+1)];rfl
theorem AV (cells vs:Array Value) (size:Nat) (t:vs.size=size) (a:cells.size=size):Instr.fill (fun i=>some (i*size,size)) cells [(0,.agg vs)]=some vs:=by
 have e:(Value.agg vs).cells=vs:=rfl;unfold Instr.fill;simp only [e,Nat.zero_mul,Nat.zero_add];rw [if_neg (by simp;omega)];unfold Instr.fill;have:=oS 0 vs.toList 0 cells;simp only [Nat.zero_add] at this;rw [← Array.foldl_toList,Array.toList_zipIdx,this];congr 1;exact xE oM
theorem ur {P:Program} {T E:TypeId} {z:Value} {size e:Nat} (w:World) (a:EI P T E z size e) (vs:Array Value) (s:vs.size=size) (c:size≤16777216) :
  (Instr.buildSlice T 1 #[(0,.agg vs)]).run P w=.ok (.slice (some ⟨w.heap.size,0,none⟩) 1 1) (w.alloc (.cells vs E)):=by
 obtain ⟨i,hi,h,r,m⟩:=info_parts a.hi;have f:=a.hp;have n:(sizeOf E).run P w=.ok size w:=by simp [sizeOf,typeInfo,hi,r]
 have d:(zeroValue E).run P w=.ok z w:=by simp [zeroValue,typeInfo,hi,h]
 have l:=AV ((Array.range (1*size)).map (z.cells[· % z.cells.size]!)) vs size s sM;have t:¬ (1*size > 2 ^ 24):=oM;have o:¬ (1*size=0):=oM;unfold Instr.buildSlice;simp only [Sem.run_bind,run_underlying a.ht w,Result.andThen_ok,n,if_neg t,if_neg o,d,Sem.run_pure,l,newRow,newObj];rfl
section
variable {P:Program} {ops:Array Oper} {rest:List Oper} {o:Oper} {a:Act} {w:World} {Q:Exit → Act → World → Prop} {T E:TypeId} {z:Value} {size bytes:Nat}
theorem cJ (e:o.guard=none) (x:Operand) (r:o.op=.buildSlice T 1 #[(0,x)]) (n:EI P T E z size bytes) (vs:Array Value) (d:a.eval x=.agg vs) (i:vs.size=size) (t:size≤16777216)
  (h:wpList P ops Q rest (a.put o.dst (.slice (some ⟨w.heap.size,0,none⟩) 1 1)) (w.alloc (.cells vs E))):wpList P ops Q (o :: rest) a w:=by
 refine wpList_plain e fun K s=>?_;unfold Oper.wp execOp;simp only [r,List.map_toArray,List.map_cons,List.map_nil,d,Sem.run_bind,ur w n vs i t,Sem.run_pure,Result.andThen_ok];exact s _ _ h
end
open Go.ChangeShapes Go.WideShapes Fx
def fU (d:af) (x:Int):Int:=dq (x - d.za) d.qm d.qs d.qz d.lo d.hi
theorem qf (d:af) (x:Int):InK .i8 (fU d x):=kW _ _ _ _ _ _
theorem kL (x:Int) (d:af) (W:QA) (nw s:Nat) (B:QA) (nb cb:Nat) (w:World) (i:InK .i8 x) (t:aQ d) :
  Calls prog 188 #[.int .i8 x,.agg (nD d W nw s B nb cb)] w fun e w'=>e=.returned (.int .i8 (fU d x))∧Below w w w':=by
 have h:=t.za;have l:=i;rw [bj] at i h;obtain ⟨g,k⟩:=i;obtain ⟨j,q⟩:=h;have a:=zW w;obtain ⟨v,y,n,a⟩:=nF a (nD d W nw s B nb cb) 84;have r:=zH (fun w=>iG (x - d.za) d.qm d.qs d.qz d.lo d.hi w (by rw [cE];omega) t.qm t.qz t.lo t.hi);obtain ⟨p,c,m⟩:=uc3 n 7 17 18;unfold fU;clear t l;go_in
 go_wp2_with (first|(refine lP 82 #[.int .i32 d.qm,.int .i64 d.qs,.int .i8 d.qz] n.o ?_)|(go_at_call 218;refine qM (r.o _) fun b f=>?_))
 go_ret;exact ⟨rfl,(a.o.fut f).out⟩
theorem nk (x:Int) (d:af) (W:QA) (nw s:Nat) (B:QA) (nb cb:Nat) (w:World) (i:InK .i8 x) (t:aQ d) :
  Calls prog 126 #[.int .i8 x,.agg (nD d W nw s B nb cb)] w fun e w'=>e=.returned (.int .i8 (fU d x))∧Below w w w':=by
 have h:=t.za;have l:=i;rw [bj] at i h;obtain ⟨g,k⟩:=i;obtain ⟨j,q⟩:=h;have a:=zW w;obtain ⟨v,y,n,a⟩:=nF a (nD d W nw s B nb cb) 84;have r:=zH (fun w=>jI (x - d.za) d.qm d.qs d.qz d.lo d.hi w (by rw [cE];omega) t.qm t.qz t.lo t.hi);obtain ⟨p,c,m⟩:=uc3 n 7 17 18;unfold fU;clear t l;go_in
 go_wp2_with (first|(refine lP 82 #[.int .i32 d.qm,.int .i64 d.qs,.int .i8 d.qz] n.o ?_)|(go_at_call 165;refine qM (r.o _) fun b f=>?_))
 go_ret;exact ⟨rfl,(a.o.fut f).out⟩
theorem Blk.grown0 {w w':World} {g:Nat} {e:TypeId} {cs:Array Value} (h:Blk w g e cs) (t:w.grownBy w' none):Blk w' g e cs:=⟨(t.block g h.lt sM).trans h.heap⟩
theorem Blk.rowR {w w':World} {g:Nat} {e:TypeId} {cs:Array Value} {r:Option Nat} (h:Blk w g e cs) (a:w.grownBy w' r) (t:some g ≠ r):Blk w' g e cs:=⟨by rw [a.block g h.lt t];exact h.heap⟩
theorem World.size_drew (w:World):w.drew.heap.size=w.heap.size:=rfl
section
variable {P:Program} {o:Oper} {a:Act} {Q:Go.Exit → Act → World → Prop} {T E:TypeId} {bytes base n:Nat} {k:IntKind}
theorem dy {K:Act → World → Prop} {W:World} (lo l:Operand) (A:o.op=Op.makeSlice T lo l) (c:EI P T E (.int k 0) 1 bytes) (w f:IntKind) (z:a.eval lo=.int w (n:Int)) (g:a.eval l=.int f (n:Int))
  (y:bytes*n≤281474976710656) (p:n≤maxLen) (v:base≤W.heap.size) (b:InK k 0)
  (h:∀ w',Own (ab k) w' (fun _=>False) base E (.slice (some ⟨W.heap.size,0,none⟩) n n) n (List.replicate n 0) → W.grownBy w' none → K (a.put o.dst (.slice (some ⟨W.heap.size,0,none⟩) n n)) w') :
  Oper.wp P o a W K Q:=by
 obtain ⟨i,hi,s,r,d⟩:=info_parts c.hi;obtain ⟨w',t,m,q⟩:=run_make_full (P:=P) W base T E i (.int k 0) 1 c.ht hi s r w f n (by rw [d];exact y) p v;unfold Oper.wp execOp;simp only [A,z,g,Sem.run_bind,t,Sem.run_pure,Result.andThen_ok];refine h w' ⟨_,m,?_⟩ q;have e:(madeCells (Value.cells (.int k 0)) (n*1)).toList=(List.replicate n (0:Int)).map (Value.int k):=by
  simp [madeCells,Value.cells];apply List.ext_getElem sM;intro j m C;simp [Nat.mod_one]
 rw [e];exact RowsOf.ints (fun x B=>by rw [List.eq_of_mem_replicate B];exact b)
end
def stF (f:Nat → Int) (p:Nat → Bool) (n:Nat):List Int:=(List.range n).map fun j=>if p j=true then f j else 0
theorem mR {f:Nat → Int} {p q:Nat → Bool} {n:Nat} (h:∀ j,j < n → p j=q j):stF f p n=stF f q n:=by
 unfold stF;apply List.map_congr_left;intro j e;rw [h j (List.mem_range.1 e)]
theorem uy (f:Nat → Int) (p:Nat → Bool) (n:Nat) (h:∀ j,j < n → p j=false):stF f p n=List.replicate n 0:=by
 unfold stF;apply List.ext_getElem sM;intro i e t;simp at e;simp [h i e]
theorem vX (f:Nat → Int) (p:Nat → Bool) (n:Nat) (h:∀ j,j < n → p j=true):stF f p n=(List.range n).map f:=by
 unfold stF;apply List.map_congr_left;intro j e;rw [if_pos (h j (List.mem_range.1 e))]
theorem vY (f:Nat → Int) (p:Nat → Bool) (n i:Nat):(stF f p n).set i (f i)=stF f (fun j=>p j || j == i) n:=by
 unfold stF;apply List.ext_getElem sM;intro j t a;rw [List.getElem_set];simp only [List.getElem_map,List.getElem_range];by_cases e:i=j
 ·subst e;simp
 ·rw [if_neg e];have:(j == i)=false:=sO;rw [this,Bool.or_false]
theorem yu:EI prog 342 320 (.slice none 0 0) 1 24:=⟨underlying342,by kernel_rfl,rfl,by decide⟩
theorem vQ:EI prog 343 345 (.agg #[.int .i8 0,.int .i8 0,.int .i8 0]) 3 3:=⟨underlying343,by kernel_rfl,rfl,by decide⟩
theorem Blk.row' {w w':World} {g:Nat} {e:TypeId} {cs:Array Value} {r:Option Nat} (h:Blk w g e cs) (a:w.grownBy w' r) (t:some g ≠ r):Blk w' g e cs:=⟨by rw [a.block g h.lt t];exact h.heap⟩
def kG (base:Nat) (u v:Value) (w:World):Nat → Prop:=fun b=>base≤b∧b < w.heap.size∧some b ≠ u.ownBlock∧some b ≠ v.ownBlock
structure gQ (base:Nat) (xs:List (List Int)) (ws:List W3) (k:Nat) (u v:Value) (w:World):Prop where
 rows:Own (tSlice (ab .i16)) w (kG base u v w) base 320 u k xs
 taps:Own tW3 w (fun _=>False) base 345 v k ws
 ne:u.ownBlock=none ∨ u.ownBlock ≠ v.ownBlock
theorem gQ.below {base k:Nat} {xs ws u v w w'} (h:gQ base xs ws k u v w) (e:Below w w w'):gQ base xs ws k u v w' :=
 ⟨(h.rows.below e (lR _) (fun b e=>e.2.1)).more fun b ⟨t,a,o⟩=>⟨t,Nat.lt_of_lt_of_le a e.size,o⟩,h.taps.below e (lR _) (fun _ h=>h.elim),h.ne⟩
theorem gQ.row {base k:Nat} {xs ws u v w u' w' ys} (h:gQ base xs ws k u v w) (d:Own (tSlice (ab .i16)) w' (kG base u v w) base 320 u' (k+1) ys) (a:w.grownBy w' u.ownBlock) (t:u'.ownBlock=u.ownBlock ∨ u'.ownBlock=some (w.heap.size+1)) :
  Own (tSlice (ab .i16)) w' (kG base u' v w') base 320 u' (k+1) ys∧Own tW3 w' (fun _=>False) base 345 v k ws∧(u'.ownBlock=none ∨ u'.ownBlock ≠ v.ownBlock):=by
 refine ⟨d.more fun b ⟨i,n,s,r⟩=>⟨i,Nat.lt_of_lt_of_le n a.size,?_,r⟩,h.taps.flat a ?_ (fun _ h=>h),?_⟩
 ·rcases t with e|e
  ·rw [e];exact s
  ·rw [e];intro h;injection h;omega
 ·rcases h.ne with e|e
  ·cases l:v.ownBlock with
   | none=>exact .inl rfl
   | some m=>right;rw [e];simp
  ·exact .inr fun h=>e h.symm
 ·rcases t with e|e
  ·rw [e];exact h.ne
  ·right;rw [e];intro o;have:=(h.taps.lt _ o.symm).2;omega
theorem gQ.tap {base k p:Nat} {xs ws u v w v' w' ys} (a:Own (tSlice (ab .i16)) w (kG base u v w) base 320 u k xs) (g:Own tW3 w (fun _=>False) base 345 v p ws) (t:u.ownBlock=none ∨ u.ownBlock ≠ v.ownBlock)
  (f:Own tW3 w' (fun _=>False) base 345 v' k ys) (n:w.grownBy w' v.ownBlock) (o:v'.ownBlock=v.ownBlock ∨ v'.ownBlock=some (w.heap.size+1)):gQ base xs ys k u v' w':=by
 refine ⟨(a.kept n t (fun b i=>⟨i.2.1,i.2.2.2⟩)).more fun b ⟨s,r,d,l⟩=>⟨s,Nat.lt_of_lt_of_le r n.size,d,?_⟩,f,?_⟩
 ·rcases o with e|e
  ·rw [e];exact l
  ·rw [e];intro h;injection h;omega
 ·rcases o with e|e
  ·rw [e];exact t
  ·rcases t with t|t
   ·exact .inl t
   ·cases y:u.ownBlock with
    | none=>exact .inl rfl
    | some m =>
     right;rw [e];intro c;have:=(a.lt _ y).2;injection c;omega
theorem zd {P:Program} {o:Oper} {a:Act} {w:World} {Q:Go.Exit → Act → World → Prop} {K:Act → World → Prop} {T E:TypeId} {z:Value} {size e:Nat} (x:Operand) (s:o.op=.buildSlice T 1 #[(0,x)]) (n:EI P T E z size e)
  (vs:Array Value) (r:a.eval x=.agg vs) (i:vs.size=size) (t:size≤16777216)
  (h:K (a.put o.dst (.slice (some ⟨w.heap.size,0,none⟩) 1 1)) (w.alloc (.cells vs E))):o.wp P a w K Q:=by
 unfold Oper.wp execOp;simp only [s,List.map_toArray,List.map_cons,List.map_nil,r,Sem.run_bind,ur w n vs i t,Sem.run_pure,Result.andThen_ok];exact h
theorem Di (i c C:Nat) (e:c < C):(i*C+c) / C=i∧(i*C+c) % C=c :=
 ⟨by rw [Nat.mul_comm,Nat.mul_add_div oM,Nat.div_eq_of_lt e,Nat.add_zero],by rw [Nat.mul_comm,Nat.mul_add_mod,Nat.mod_eq_of_lt e]⟩
theorem pA {α:Type} (f:Nat → α) (r:Nat):(List.range r).map f ++ [f r]=(List.range (r+1)).map f:=by simp [List.range_succ]
def fB (H V C:Nat) (l:List Int) (za:Int) (w:List Int) (K S P:Nat) (c y x q:Nat):Int:=w.getD (c*K*K+q) 0*px H V C l za ((y*S+q / K:Nat) - P) ((x*S+q % K:Nat) - P) c
def lO (H V C:Nat) (l:List Int) (za:Int) (w:List Int) (K S P:Nat) (c y x:Nat):Int:=bf (K*K) (fB H V C l za w K S P c y x)
theorem tp (H V C:Nat) (A:QA) (n J:Nat) (l:List Int) (d:af) (W:QA) (nw cw:Nat) (B:QA) (nb cb:Nat) (K S P y x c:Nat) (w:World)
  (hl:xA w A n J l) (Z:xA w W nw cw d.w) (U:xB w B nb cb d.bias) (hn:n=H*V*C) (cn:n≤1024) (h1:1≤H∧H≤16) (v1:1≤V∧V≤16) (c1:1≤C∧C≤1024) (he:decide (0 < ag H V C)=true)
  (hk:d.k=K) (hs:d.s=S) (hp:d.p=P) (k1:1≤K∧K≤5) (s1:1≤S∧S≤4) (p1:P≤4) (hz:InK .i8 d.za) (hy:y≤1000) (hx:x≤1000) (hc:c < C) (ba:c < nb) (bh:nw=C*K*K) :
  Calls prog 224 #[.agg (tN H V C A n J),.agg (nN d.kind d.a d.b d.k d.s d.p d.out d.za d.zb W nw cw B nb cb d.qm d.qs d.qz d.rm d.rs d.rz d.lo d.hi),.int .i64 y,.int .i64 x,.int .i64 c] w fun e w' =>
   e=.returned (.int .i32 (wrap32 (d.bias.getD c 0+lO H V C l d.za d.w K S P c y x)))∧Below w w w':=by
 obtain ⟨bb,ob,rfl,-,-,-,-⟩:=U.int_at c ba;have h:=zW w;obtain ⟨OL,OW,OB⟩:=zh3 (Old.now hl) (Old.now Z) (Old.now U);obtain ⟨w1,w2,bM,bN,_,_,r,i,bg⟩:=bk2 w (tN H V C A n J) 29 (nN d.kind d.a d.b d.k d.s d.p d.out d.za d.zb W nw cw (some ⟨bb,ob,none⟩) nb cb d.qm d.qs d.qz d.rm d.rs d.rz d.lo d.hi) 84;obtain ⟨h,OL,OW,OB⟩:=uz4 bg h OL OW OB;clear bg;have IX:=zH (fun (G F:Int) (wq:World)=>fQ H V C G F c wq h1 v1 c1 he hc);obtain ⟨b0,o0,e0,-,-,cB,iB⟩:=OB.o.out.int_at c ba;simp only [Option.some.injEq,Addr.mk.injEq,and_true] at e0;obtain ⟨rfl,rfl⟩:=e0;obtain ⟨bo,be⟩:∃ m,d.bias.getD c 0=m:=⟨_,rfl⟩;rw [be] at cB iB ⊢;obtain ⟨HN,HW,HL,bz,HK,HS,HP,HZ⟩:=zh8 hn bh hl Z hk hs hp hz;obtain ⟨O,bp⟩:=uc2 i 3 10;simp only [gX] at O bp;rw [hk] at O;obtain ⟨T,g⟩:∃ m,K*K=m:=⟨_,rfl⟩;have ct:(K:Int)*(K:Int)=(T:Int):=by rw [← g];simp
 have bO:T≤25:=by rw [← g];exact Nat.mul_le_mul k1.2 k1.2
 unfold lO;rw [g];rw [cE] at iB;have bx:=zH (show wrap32 (bo+bf 0 (fB H V C l d.za d.w K S P c y x))=bo by rw [show bf 0 (fB H V C l d.za d.w K S P c y x)=0 from rfl,Int.add_zero];unfold wrap32;omega);have co:=k1;obtain ⟨ch,al⟩:=k1;have ac:=zH g;clear hl Z U hn bh hk hs hp hz he be g;go_in;go_wp2_with fail;go_step3;go_wp2_with fail;go_step3;go_wp2_with fail;clear bM bN O bp cB;go_loopw [11,25] (fun u ii wr=>∃ k:Nat,k≤T∧ii=.int .i64 k∧u=.int .i32 (wrap32 (bo+bf k (fB H V C l d.za d.w K S P c y x)))∧Far w wr∧Blk wr w.heap.size 29 (tN H V C A n J)∧Blk wr w1.heap.size 84 (nN d.kind d.a d.b d.k d.s d.p d.out d.za d.zb W nw cw (some ⟨bb,ob,none⟩) nb cb d.qm d.qs d.qz d.rm d.rs d.rz d.lo d.hi)) (fun _ ii _=>T - (intOf ii).toNat)
 case atStart=>exact ⟨0,zl _,rfl,by rw [bx.o],h.o,r.o,i.o⟩
 case round =>
  obtain ⟨k,hk,rfl,rfl,hf,bt,ax⟩:=hrel;clear h r i;obtain ⟨h,r,i⟩:=zh3 hf bt ax;clear hf bt ax;by_cases ci:k < T
  ·have cr:(k:Int) < (T:Int):=oM;go_wp2_with fail;obtain ⟨Q,X⟩:∃ m,k / K=m:=⟨_,rfl⟩;obtain ⟨R,Y⟩:∃ m,k % K=m:=⟨_,rfl⟩;have bR:Q≤25:=by rw [← X];exact lT (Nat.div_le_self _ _) oM
   have bT:R≤5:=by rw [← Y];exact lT (Nat.le_of_lt (Nat.mod_lt _ oM)) al
   have ce:(K:Int) ≠ 0:=oM;have d1:(k:Int).tdiv (K:Int)=(Q:Int):=by rw [← X,Int.tdiv_eq_ediv_of_nonneg oM];simp
   have d2:(k:Int).tmod (K:Int)=(R:Int):=by rw [← Y,Int.tmod_eq_emod_of_nonneg oM];simp
   obtain ⟨ys,ah⟩:∃ m,y*S=m:=⟨_,rfl⟩;have bH:(y:Int)*(S:Int)=(ys:Int):=by rw [← ah];simp
   have cf:ys≤4000:=by rw [← ah];exact Nat.mul_le_mul hy s1.2
   obtain ⟨xs,an⟩:∃ m,x*S=m:=⟨_,rfl⟩;have bD:(x:Int)*(S:Int)=(xs:Int):=by rw [← an];simp
   have cm:xs≤4000:=by rw [← an];exact Nat.mul_le_mul hx s1.2
   obtain ⟨G,bc⟩:∃ m:Int,((y*S+k / K:Nat):Int) - P=m:=⟨_,rfl⟩;obtain ⟨F,bd⟩:∃ m:Int,((x*S+k % K:Nat):Int) - P=m:=⟨_,rfl⟩;have bw:(ys:Int)+(Q:Int) - (P:Int)=G:=by rw [← bc,ah,X];simp
   have bl:(xs:Int)+(R:Int) - (P:Int)=F:=by rw [← bd,an,Y];simp
   have g1:IntKind.i64.wrap ((y:Int)*(S:Int))=(ys:Int):=by rw [bH];exact wJ
   have g2:IntKind.i64.wrap ((x:Int)*(S:Int))=(xs:Int):=by rw [bD];exact wJ
   have g3:IntKind.i64.wrap ((ys:Int)+(Q:Int))=(ys:Int)+(Q:Int):=wJ;have g4:IntKind.i64.wrap ((xs:Int)+(R:Int))=(xs:Int)+(R:Int):=wJ;have g5:IntKind.i64.wrap ((ys:Int)+(Q:Int) - (P:Int))=G:=by rw [bw];exact wJ
   have g6:IntKind.i64.wrap ((xs:Int)+(R:Int) - (P:Int))=F:=by rw [bl];exact wJ
   have g7:IntKind.i64.wrap (Q:Int)=(Q:Int):=wJ;have g8:IntKind.i64.wrap (R:Int)=(R:Int):=wJ;have t0:∀ q:Ext wr,q.1.cell? ⟨w.heap.size,0,none⟩=some (.int .i64 H):=fun q=>(r.o.ext q).cell 0;have t1:∀ q:Ext wr,q.1.cell? ⟨w.heap.size,1,none⟩=some (.int .i64 V):=fun q=>(r.o.ext q).cell 1;have t2:∀ q:Ext wr,q.1.cell? ⟨w.heap.size,2,none⟩=some (.int .i64 C):=fun q=>(r.o.ext q).cell 2;have O:∀ q:Ext wr,q.1.cell? ⟨w1.heap.size,3,none⟩=some (.int .i64 K):=fun q=>by rw [← HK.o];exact (i.o.ext q).cell 3
   have n4:∀ q:Ext wr,q.1.cell? ⟨w1.heap.size,4,none⟩=some (.int .i64 S):=fun q=>by rw [← HS.o];exact (i.o.ext q).cell 4
   have n5:∀ q:Ext wr,q.1.cell? ⟨w1.heap.size,5,none⟩=some (.int .i64 P):=fun q=>by rw [← HP.o];exact (i.o.ext q).cell 5
   have RG:=zH (fun q:Ext wr=>aB q (IX.o G F q.1));have v:bf (k+1) (fB H V C l d.za d.w K S P c y x)=bf k (fB H V C l d.za d.w K S P c y x)+fB H V C l d.za d.w K S P c y x k:=rfl;have M:fB H V C l d.za d.w K S P c y x k=d.w.getD (c*K*K+k) 0*px H V C l d.za G F c:=by unfold fB;rw [bc,bd]
   obtain ⟨D,hD⟩:∃ m,bf k (fB H V C l d.za d.w K S P c y x)=m:=⟨_,rfl⟩;rw [hD] at v ⊢;obtain ⟨D1,ay⟩:∃ m,bf (k+1) (fB H V C l d.za d.w K S P c y x)=m:=⟨_,rfl⟩;rw [ay] at v;have HD:=zH ay;by_cases t:bY H V G F
   ·have j:=t;unfold bY at j;have I:=RG.o;simp only [if_pos t,qT t] at I;obtain ⟨ix,L⟩:∃ m,eB V C G F c=m:=⟨_,rfl⟩;rw [L] at I;have bs:ix < n:=by
     rw [← L,HN.o];exact jE G.toNat F.toNat c H V C oM oM hc
    have z:px H V C l d.za G F c=l.getD ix 0 - d.za:=by unfold px;rw [if_pos j,← L];rfl
    rw [M,z] at v;replace I:=zH I;refine am wr kM kM (qB _ _) ?_;repeat (go_big_quiet_step ((exact I.o _)))
    refine wpQuiet_nil ?_;rintro _ ⟨⟨w3,hB⟩,rfl⟩;obtain ⟨h,r,i⟩:=uz3 hB h r i;clear t0 t1 t2 O n4 n5 hB RG L t j z g1 g2 g3 g4 g5 g6 g7 g8 d1 d2 M;obtain ⟨bA,oA,rfl,-,-,ca,ia⟩:=(zO HL h).int_at ix bs;obtain ⟨r1,E⟩:∃ m,c*K=m:=⟨_,rfl⟩;have j1:(c:Int)*(K:Int)=(r1:Int):=by rw [← E];simp
    obtain ⟨r2,f⟩:∃ m,r1*K=m:=⟨_,rfl⟩;have j2:(r1:Int)*(K:Int)=(r2:Int):=by rw [← f];simp
    have bB:r2+k < nw:=by
     rw [HW.o,← f,← E];have:(c+1)*(K*K)≤C*(K*K):=Nat.mul_le_mul_right _ hc;rw [ac.o] at this;rw [Nat.mul_assoc,Nat.mul_assoc,ac.o];rw [Nat.succ_mul] at this;omega
    rw [E,f] at v;have cc:r2≤30000:=by
     rw [← f,← E];have q1:c*K≤1024*5:=Nat.mul_le_mul oM al;exact lT (Nat.mul_le_mul q1 al) oM
    have cd:r1≤r2:=by rw [← f];exact Nat.le_mul_of_pos_right _ oM
    obtain ⟨bW,oW,rfl,-,-,cW,iW⟩:=(zO bz h).int_at (r2+k) bB;obtain ⟨dv,bn⟩:∃ m,l.getD ix 0=m:=⟨_,rfl⟩;obtain ⟨wv,br⟩:∃ m,d.w.getD (r2+k) 0=m:=⟨_,rfl⟩;obtain ⟨zv,N⟩:∃ m,d.za=m:=⟨_,rfl⟩;have ad:=HZ.o;rw [bn] at ca ia v;rw [br] at cW iW v;rw [N] at v ad;rw [bj] at ia iW ad;obtain ⟨i1,i2⟩:=ia;obtain ⟨i3,i4⟩:=iW;obtain ⟨i5,i6⟩:=ad;have hm:=wY wv (dv - zv) i3 i4 oM oM;have a3:=r.o.cell 3;obtain ⟨O,n7,n9⟩:=uc3 i 3 7 9;simp only [gX] at a3 O n7 n9;rw [HK.o] at O;rw [N] at n7;obtain ⟨HQ,ZZ⟩:=zh2 v N;clear v bn br N E f;go_wp2_with fail;go_quiet (fail);go_wp2;exact ⟨⟨k+1,by omega,by go_num,by rw [HD.o,HQ.o,ij,Int.add_assoc],h.o.drewN _,⟨r.o.heap⟩,⟨i.o.heap⟩⟩,by simp [intOf];omega⟩
   ·have I:=RG.o;simp only [if_neg t,dF t] at I;have z:px H V C l d.za G F c=0:=by unfold px;exact if_neg t
    rw [M,z,Int.mul_zero,Int.add_zero] at v;have HQ:=zH v;replace I:=zH I;clear v M z t RG;refine am wr kM kM (qB _ _) ?_;repeat (go_big_quiet_step ((exact I.o _)))
    refine wpQuiet_nil ?_;rintro _ ⟨⟨w3,hB⟩,rfl⟩;obtain ⟨h,r,i⟩:=uz3 hB h r i;clear t0 t1 t2 O n4 n5 hB g1 g2 g3 g4 g5 g6 g7 g8 d1 d2;go_wp2;exact ⟨⟨k+1,by omega,by go_num,by rw [HD.o,HQ.o],h.o,r.o,i.o⟩,by simp [intOf];omega⟩
  ·obtain rfl:k=T:=oM;go_wp2_with fail;rw [Exit.noGoto_ret];go_ret;exact ⟨rfl,h.u⟩
def jA (t:ae) (d:af) (Wo Co:Nat) (i:Nat):Int:=wrap32 (d.bias.getD (i % Co) 0+lO t.h.toNat t.v.toNat t.c.toNat t.data d.za d.w d.k.toNat d.s.toNat d.p.toNat (i % Co) (i / Co / Wo) (i / Co % Wo))
def db (t:ae) (d:af):ae × Int :=
 if t.ok=true then (if (bF t.h t.v t.c d).2=0 then (⟨(bF t.h t.v t.c d).1.1,(bF t.h t.v t.c d).1.2.1,(bF t.h t.v t.c d).1.2.2,
  (List.range (ag (bF t.h t.v t.c d).1.1 (bF t.h t.v t.c d).1.2.1 (bF t.h t.v t.c d).1.2.2).toNat).map (jA t d (bF t.h t.v t.c d).1.2.1.toNat (bF t.h t.v t.c d).1.2.2.toNat)⟩,0) else (ak,(bF t.h t.v t.c d).2)) else (ak,5)
theorem lQ {t:ae} {d:af} (s:t.ok=true) (r:(bF t.h t.v t.c d).2=0):∃ H V C K S P Ho Wo:Nat,TOk t t.data.length H V C∧WOk d H V C K S P Ho Wo C∧bF t.h t.v t.c d=(((Ho:Int),(Wo:Int),(C:Int)),0)∧d.w.length=C*K*K∧d.bias.length=C∧ag Ho Wo C=(Ho*Wo*C:Nat) ∧
  db t d=(⟨Ho,Wo,C,(List.range (Ho*Wo*C)).map (jA t d Wo C)⟩,0):=by
 obtain ⟨H,V,C,T⟩:=fK s;obtain ⟨⟨⟨g,j,q⟩,e⟩,i⟩:∃ x,bF t.h t.v t.c d=x:=⟨_,rfl⟩;have o:=i;rw [i] at r;obtain rfl:e=0:=r;unfold bF at o;obtain ⟨a,b,-,c⟩:=pY o rfl;rw [T.h,T.v,T.c] at a;obtain ⟨K,S,P,Ho,Wo,Co,l,m,f,y,p,n⟩:=jY a;subst m f y;obtain rfl:C=Co:=oM;refine ⟨H,V,C,K,S,P,Ho,Wo,T,l,i,?_,by have:=T.c;omega,n,?_⟩
 ·rw [l.k,T.c] at b
  exact_mod_cast b
 ·unfold db;rw [if_pos s,i,if_pos rfl];simp only [n,Int.toNat_natCast]
theorem gP {t:ae} {n H V C:Nat} (h:TOk t n H V C):decide (0 < ag (H:Int) (V:Int) (C:Int))=true:=by
 have e:ag (H:Int) (V:Int) (C:Int)=(H*V*C:Nat):=by
  rw [cO,if_pos]
  ·rw [Int.natCast_mul,Int.natCast_mul]
  ·have:=h.h1;have:=h.v1;have:=h.c1;refine ⟨by omega,by omega,by omega,by omega,by omega,by omega,?_⟩;have e:=h.n_eq;have:=h.n_le;rw [e] at this;rw [← Int.natCast_mul,← Int.natCast_mul];omega
 rw [e];have:0 < H*V*C:=Nat.mul_pos (Nat.mul_pos (by have:=h.h1;omega) (by have:=h.v1;omega)) (by have:=h.c1;omega);simp only [decide_eq_true_eq];omega
theorem wD {i Ho Wo Co:Nat} (h:i < Ho*Wo*Co):i % Co < Co∧i / Co / Wo < Ho∧i / Co % Wo < Wo:=by
 have a:0 < Co:=by
  rcases Nat.eq_zero_or_pos Co with e|e
  ·subst e;simp at h
  ·exact e
 have o:0 < Wo:=by
  rcases Nat.eq_zero_or_pos Wo with e|e
  ·subst e;simp at h
  ·exact e
 have t:i / Co < Ho*Wo:=Nat.div_lt_of_lt_mul (by rw [Nat.mul_comm];exact h);exact ⟨Nat.mod_lt _ a,Nat.div_lt_of_lt_mul (by rw [Nat.mul_comm];exact t),Nat.mod_lt _ o⟩
def jB (a b:List Int) (n:Nat):Int:=bf n fun i=>a.getD i 0*b.getD i 0
theorem CR (A j:QA) (n d h:Nat) (a b:List Int) (w:World) (B:Sl (ab .i16) w (blo w) A n d a) (C:xA w j n h b) (U:n≤65536) :
  Calls prog 260 #[.slice A n d,.slice j n h] w fun e w'=>e=.returned (.int .i32 (wrap32 (jB a b n)))∧Below w w w':=by
 obtain ⟨I,J,O⟩:=zh3 B C (show wrap32 (jB a b 0)=0 by unfold jB;rw [show bf 0 (fun i=>a.getD i 0*b.getD i 0)=0 from rfl];unfold wrap32;decide);clear B C;go_in;go_wp2;go_loopw [5,12] (fun u p wr=>∃ k:Nat,k≤n∧p=.int .i64 k∧u=.int .i32 (wrap32 (jB a b k))∧Below w w wr) (fun _ p _=>n - (intOf p).toNat)
 case atStart=>exact ⟨0,zl _,rfl,by rw [O.out],qB _ _⟩
 case round =>
  obtain ⟨k,T,rfl,rfl,l⟩:=hrel;have s:=zH l;clear l;by_cases c:k < n
  ·have p1:(k:Int) < (n:Int):=oM;obtain ⟨R,Z,rfl,-,-,M,v⟩:=((Old.now I.o).fut s.o).all.int_at k c;obtain ⟨S,oz,rfl,-,-,N,g⟩:=((Old.now J.o).fut s.o).all.int_at k c;have r:jB a b (k+1)=jB a b k+a.getD k 0*b.getD k 0:=rfl;obtain ⟨x,F⟩:∃ x,a.getD k 0=x:=⟨_,rfl⟩;obtain ⟨y,G⟩:∃ x,b.getD k 0=x:=⟨_,rfl⟩;rw [F] at M v r;rw [G] at N g r;rw [mH] at v;rw [bj] at g;have E:=natAbs_mul_le (a:=x) (b:=y) (m:=32768) (n:=128) oM oM;obtain ⟨V,W⟩:=v;obtain ⟨i3,i4⟩:=g;obtain ⟨H,f⟩:∃ m,x*y=m:=⟨_,rfl⟩;rw [f] at E r;have X:-4194304≤H:=oM;have Y:H≤4194304:=oM;obtain ⟨D,z⟩:∃ m,jB a b k=m:=⟨_,rfl⟩;rw [z] at r ⊢;have L:=zH r;obtain ⟨q,t⟩:∃ m,wrap32 D=m:=⟨_,rfl⟩;have K:=zH t;have P:-2147483648≤q:=by rw [← t];exact (eT D).1
   have Q:q≤2147483647:=by rw [← t];exact (eT D).2
   rw [t];clear F G r E z t;go_wp2_with fail;go_quiet (fail);go_wp2;exact ⟨⟨k+1,by omega,by go_num,by rw [L.o,← K.o,ij],aI s.o _⟩,by simp [intOf];omega⟩
  ·obtain rfl:k=n:=oM;go_wp2;go_ret;exact ⟨rfl,s.o⟩
theorem jc:EI prog 27 80 (.int .i8 0) 1 1:=⟨underlying27,by kernel_rfl,rfl,by decide⟩
def jz (l:List Int) (m s z lo hi:Int):List Int:=l.map fun x=>dq x m s z lo hi
theorem wg {l:List Int} {n:Nat} (h:l.length=n) (m s z lo hi:Int):jz l m s z lo hi=(List.range n).map fun i=>dq (l.getD i 0) m s z lo hi:=by
 subst h;unfold jz;apply List.ext_getElem sM;intro i e t;simp at e;simp [gD,List.getElem?_eq_getElem e]
theorem wL (A:QA) (n q:Nat) (l:List Int) (m s z lo hi:Int) (w:World) (L:xB w A n q l) (hn:n≤1073741824) (W:InK .i32 m) (Y:InK .i8 z) (D:InK .i8 lo) (C:InK .i8 hi) (X:aD m s=true) :
  Calls prog 196 #[.slice A n q,.agg #[.int .i32 m,.int .i64 s,.int .i8 z],.int .i8 lo,.int .i8 hi] w (RetSl (ab .i8) w (jz l m s z lo hi)):=by
 obtain ⟨HL,I⟩:=zh2 L (fun w=>dO m s z w);rw [X] at I;rw [wg L.n_eq];have HD:=zH (fun x (F:InK .i32 x) w=>iG x m s z lo hi w F W Y D C);have mx:n≤9223372036854775807:=oM;have a:=zW w;obtain ⟨w1,G,c,a⟩:=nF a #[.int .i32 m,.int .i64 s,.int .i8 z] 82;have l1:=zL G;obtain ⟨d0,d1,d2⟩:=uc3 c 0 1 2;clear X W Y D C L;go_in
 go_wp2_with (first|(go_at_call 138;refine qM (I.o _) fun H v=>?_;have l2:=v.size;obtain ⟨a,c⟩:=uz2 v a c;clear v d0 d1 d2 G)|(at_make;refine wpList_make (t:=ab .i8) (S:=fun _=>False) (base:=w1.heap.size) rfl _ _ rfl jc .i64 .i64 _ _ n rfl rfl rfl rfl ?_ ?_ ?_ 0 ⟨rfl,by decide⟩ (fun _ h=>h.elim) ?_;rotate_right;intro w3 d V))
 rotate_left
 ·omega
 ·unfold maxLen;omega
 ·omega
 have kb:Below H H w3:=(qB _ _).grown V (lR _) sM;replace d:=(fD 0 (fun i=>dq (l.getD i 0) m s z lo hi) n).symm ▸ d;obtain ⟨p,LG⟩:=zh2 d (show w.heap.size < H.heap.size by omega);obtain ⟨a,c⟩:=uz2 kb a c;clear kb;clear d V I;go_loopw [19] (fun M wr=>∃ k:Nat,k≤n∧M=.int .i64 k∧Far w wr∧Blk wr w.heap.size 82 #[.int .i32 m,.int .i64 s,.int .i8 z]∧Own (ab .i8) wr (fun _=>False) w1.heap.size 80 (.slice (some ⟨H.heap.size,0,none⟩) n n) n (du 0 (fun i=>dq (l.getD i 0) m s z lo hi) n k)) (fun M _=>n - (intOf M).toNat)
 case atStart=>exact ⟨0,zl _,rfl,a.o,c.o,p.o⟩
 case round =>
  obtain ⟨k,hk,rfl,U,B,E⟩:=hrel;clear a c p;obtain ⟨a,c,p⟩:=zh3 U B E;clear U B E;by_cases g:k < n
  ·have p1:(k:Int) < (n:Int):=oM;go_wp2_with fail;obtain ⟨b,o,rfl,-,-,J,Z⟩:=(zO HL a).int_at k g;have FS:=zH (fv 0 (fun i=>dq (l.getD i 0) m s z lo hi) n k g);obtain ⟨x,F⟩:∃ x,l.getD k 0=x:=⟨_,rfl⟩;rw [F] at J Z;obtain ⟨O,P⟩:=zh2 (HD.o x Z) (show dq (l.getD k 0) m s z lo hi=dq x m s z lo hi by rw [F]);obtain ⟨j,y⟩:∃ r,dq x m s z lo hi=r:=⟨_,rfl⟩;rw [y] at O P;have RE:=zH (show InK .i8 j by rw [← y];exact kW _ _ _ _ _ _);clear F y;refine aP (fun w'=>w'.cell? ⟨b,o+k,none⟩=some (.int .i32 x)∧Blk w' w.heap.size 82 #[.int .i32 m,.int .i64 s,.int .i8 z]∧Below wr.drew.heap.size wr.drew w') 10 kM ?_ (fun f=>?_)
   ·exact ⟨au ((qB _ _).drew) J,c.o.drew,qB _ _⟩
   refine kT' 0 f ?_;refine kT' 1 f ?_;refine kT' 2 f ?_;refine kT' 3 f ?_;refine kT' 4 f ?_;refine kT' 5 f ?_;refine tkT 6 rfl (yP #[.int .i32 m,.int .i64 s,.int .i8 z] (fun w hs=>hs.2.1)) f ?_;try simp only [pX]
   refine kT' 7 f ?_;refine kT' 8 f ?_;refine rT 9 (fun K T=>?_);go_simp;refine qM (O.o _) fun wm v=>?_;refine xK T (zR v f) fun f=>?_;clear T K;refine wpAnyT_tail _ _ rfl rfl kM ?_;have N:=(show Below wr wr wr.drew from (qB _ _).drew).trans v;replace p:=zH (p.o.below N (lR _) (fun _ h=>h.elim));obtain ⟨a,c⟩:=uz2 N a c;clear f v N J;obtain ⟨x1,u1,-,-,c5,c6,c7,-⟩:=p.o.cell rfl k g;go_wp2_with fail;obtain ⟨o3,R⟩:=p.o.set1 rfl k (.int .i8 j) j ⟨rfl,RE.o⟩ (fun _ h=>h.elim);have Q:=FS.o;rw [P.out] at Q;rw [Q] at o3;have lg:=LG.o;exact ⟨⟨k+1,by omega,by go_num,a.o.away R oM,c.o.away R (.inl lg),o3⟩,by simp [intOf];omega⟩
  ·obtain rfl:k=n:=oM;go_wp2;go_ret;have e:=p.o;rw [fZ] at e;obtain ⟨A2,c2,hv,sl⟩:=e.sl (S':=bin w.heap.size _) dM (fun b h1 h2=>⟨by omega,h2⟩) (fun b h=>h.elim);injection hv with hv1 hv2 hv3
   subst hv1 hv3;exact ⟨_,_,_,rfl,sl,a.u⟩
def lk (a:ae) (d:af):ae × Int:=if aD d.qm d.qs=true then (⟨a.h,a.v,a.c,jz a.data d.qm d.qs d.qz d.lo d.hi⟩,0) else (ak,7)
theorem we (a:ae) (A:QA) (n m:Nat) (d:af) (W:QA) (nw H:Nat) (B:QA) (nb cb:Nat) (w:World) (z:aw a) (S:aQ d)
  (R:xB w A n m a.data) (T:ag a.h a.v a.c=n) (hn:0 < n) (an:n≤1024) :
  Calls prog 160 #[.agg (tN a.h a.v a.c A n m),.agg (nD d W nw H B nb cb)] w (aT .i8 (lk a d).1 (lk a d).2 w):=by
 have E:=zH (fun w=>bL a.h a.c a.v w z.h z.v z.c);rw [T] at E;obtain ⟨F,V,g⟩:=zh3 (fun w=>dO d.qm d.qs d.qz w) R S;have i:=zW w;obtain ⟨P,w2,w3,ah,ad,al,l1,l2,_,t,l,f,b⟩:=bk3 w (tN a.h a.v a.c A n m) 255 (nD d W nw H B nb cb) 84 (tN 0 0 0 none 0 0) 29;replace i:=zF b i;clear b;have n0:¬ n=0:=oM;have p:=zH (show lk a d=if aD d.qm d.qs=true then (⟨a.h,a.v,a.c,jz a.data d.qm d.qs d.qz d.lo d.hi⟩,0) else (ak,7) from rfl);obtain ⟨x,U⟩:∃ x,lk a d=x:=⟨_,rfl⟩;rw [U] at p ⊢;obtain ⟨q,I⟩:∃ q,aD d.qm d.qs=q:=⟨_,rfl⟩;rw [I] at F p;have X:=zH I;have k:=t.o.cell 3;clear z S R T U I hn;cases q with
 | false =>
  rw [if_neg dM] at p;rw [p.o];go_in
  go_wp2_with (first|(refine lP 23 (sN a.h a.v a.c) t.o ?_)|(go_at_call 85;refine qM (E.o _) fun wa s=>?_;obtain ⟨i,t,l,f⟩:=uz4 s i t l f;clear s;clear k;have k:=t.o.cell 3)|(refine lP 82 #[.int .i32 d.qm,.int .i64 d.qs,.int .i8 d.qz] l.o ?_)|(go_at_call 138;refine qM (F.o _) fun y s=>?_;obtain ⟨i,t,l,f⟩:=uz4 s i t l f;clear s)|(refine sG (tN 0 0 0 none 0 0) f.o ?_;intro w9 C j))
  refine rG C ?_;exact aT.none (i.o.away j oM).out
 | true =>
  rw [if_pos rfl] at p;rw [p.o];go_in
  go_wp2_with (first|(refine lP 23 (sN a.h a.v a.c) t.o ?_)|(go_at_call 85;refine qM (E.o _) fun wa s=>?_;obtain ⟨i,t,l,f⟩:=uz4 s i t l f;clear s;clear k;have k:=t.o.cell 3)|(refine lP 82 #[.int .i32 d.qm,.int .i64 d.qs,.int .i8 d.qz] l.o ?_)|(go_at_call 138;refine qM (F.o _) fun y s=>?_;obtain ⟨i,t,l,f⟩:=uz4 s i t l f;clear s))
  have Z:Below w w y.drew:=i.u.drew;refine aP (fun w'=>w'.cell? ⟨w.heap.size,3,none⟩=some (.slice A n m)∧w'.cell? ⟨P.heap.size,17,none⟩=some (.int .i8 d.lo)∧w'.cell? ⟨P.heap.size,18,none⟩=some (.int .i8 d.hi)∧Blk w' w.heap.size 255 (tN a.h a.v a.c A n m)∧Blk w' P.heap.size 84 (nD d W nw H B nb cb)∧Below y.drew.heap.size y.drew w') 12 kM ?_ (fun r=>?_)
  ·exact ⟨t.o.drew.cell 3,l.o.drew.cell 17,l.o.drew.cell 18,t.o.drew,l.o.drew,qB _ _⟩
  refine kT' 0 r ?_;refine tkT 1 rfl (yP (sN a.h a.v a.c) (fun w J=>J.2.2.2.1)) r ?_;try simp only [pX]
  refine kT' 2 r ?_;refine kT' 3 r ?_;refine kT' 4 r ?_;refine tkT 5 rfl (yP #[.int .i32 d.qm,.int .i64 d.qs,.int .i8 d.qz] (fun w J=>J.2.2.2.2.1)) r ?_;try simp only [pX]
  refine kT' 6 r ?_;refine kT' 7 r ?_;refine kT' 8 r ?_;refine kT' 9 r ?_;refine rT 10 (fun K Q=>?_);go_simp;refine (wL A n m a.data d.qm d.qs d.qz d.lo d.hi _ ((Old.now V.o).fut Z).all oM g.o.qm g.o.qz g.o.lo g.o.hi X.o).mono ?_;rintro e wm ⟨G,O,N,rfl,rs,s⟩;refine xK Q (zR s r) fun r=>?_;clear Q K;refine kT' 11 r ?_;refine wpAnyT_tail _ _ rfl rfl kM ?_;have L:=(show Below y y y.drew from (qB _ _).drew).trans s;obtain ⟨Y,D⟩:=zh2 (show New y (ab .i8) wm G O N (jz a.data d.qm d.qs d.qz d.lo d.hi) from ⟨rs⟩) (f.o.fut L);replace i:=zF L i;have M:=f.o.lt;clear r s rs L
  go_wp2_with (refine sG (tN a.h a.v a.c G O N) D.o ?_;intro w9 C j)
  refine rG C ?_;exact ⟨G,O,N,rfl,(Y.o.away j M).out.more (aW oM (lR _)),(i.o.away j oM).out⟩
end Go.Proofs.YtbecbfpoahhpnaaGreat
