/- A row of the call's own, each element of which lies where its place says; parts of elements are stored. -/
import Derived.Test.YtbecbfpoahhpnaaGreatJ06
import Derived.Test.YtbecbfpoahhpnaaGreatJ07
import Derived.Test.YtbecbfpoahhpnaaGreatJ09
set_option linter.unusedVariables false
set_option linter.unusedSimpArgs false
set_option maxRecDepth 100000
set_option maxHeartbeats 16000000
namespace Go.Proofs.YtbecbfpoahhpnaaGreat
open Go Go.RowKit Go.ChangeShapes Go.WideShapes Tryz
theorem je {a b c:World} {r q:Option Nat} (h:a.grownBy b r) (k:b.grownBy c q) (o:∀ m,q=some m → a.heap.size≤m):a.grownBy c r :=
 ⟨k.os.trans h.os,k.tape.trans h.tape,k.output.trans h.output,lT h.size k.size,fun i hi t=>(k.block i (Nat.lt_of_lt_of_le hi h.size) (fun e=>by have:=o i e.symm;omega)).trans (h.block i hi t)⟩
theorem yH {a b c:World} {r:Option Nat} {m:Nat} (h:a.grownBy b r) (k:b.grownBy c (some m)) (e:a.heap.size≤m):a.grownBy c r:=je h k fun i hi=>by have:=sI hi;omega
theorem qZ {w:World} {g o:Nat} {v:Value} (h:w.cell? ⟨g,o,none⟩=some v):w.rangeAt g o [v]:=fun j x e=>by
 cases j with
 | zero=>cases e;exact h
 | succ j=>cases e
structure dY {α:Type} (t:Ty α) (w:World) (S:Nat → Nat → Prop) (g:Nat) (E:TypeId) (n cap:Nat) (l:List α) (cur:Array Value):Prop where
 len:l.length=n
 le:n≤cap
 mx:cap≤maxLen
 blk:Blk w g E cur
 size:cur.size=cap*t.size
 at_:∀ j x,l[j]?=some x → t.rep w (S j) ((cur.toList.drop (j*t.size)).take t.size) x
section
variable {α:Type} {t:Ty α} {w w':World} {S S2:Nat → Nat → Prop} {S':Nat → Prop} {g n cap:Nat} {E:TypeId} {l:List α} {cur cur':Array Value}
theorem nS {l:List Value} {o k j:Nat} {v:Value} (h:((l.drop o).take k)[j]?=some v):l[o+j]?=some v:=by
 rw [List.getElem?_take] at h;split at h
 ·rwa [List.getElem?_drop] at h
 ·cases h
theorem dY.sl (h:dY t w S g E n cap l cur) (o:S' g) (s:∀ j b,j < n → S j b → S' b):Sl t w S' (some ⟨g,0,none⟩) n cap l:=by
 refine ⟨h.len,h.le,h.mx,(fun h=>by cases h),fun i x a=>?_⟩;have hi:=(List.getElem?_eq_some_iff.1 a).1;refine ⟨_,_,rfl,o,t.more (h.at_ i x a) (s i · (by rw [← h.len];exact hi)),fun j v r=>?_⟩;have e:(⟨g,0,none⟩:Addr).add (i*t.size+j)=⟨g,i*t.size+j,none⟩:=by unfold Addr.add;split <;> simp_all
 rw [e,h.blk.cell,← Array.getElem?_toList];exact nS r
theorem dY.keep (h:dY t w S g E n cap l cur) (a:w'.heap[g]?=w.heap[g]?) (o:∀ j b,j < n → S j b → w'.heap[b]?=w.heap[b]?):dY t w' S g E n cap l cur :=
 ⟨h.len,h.le,h.mx,⟨a.trans h.blk.heap⟩,h.size,fun j x e=>t.keep (h.at_ j x e) (o j · (by rw [← h.len];exact (List.getElem?_eq_some_iff.1 e).1))⟩
theorem dY.fut (h:dY t w S g E n cap l cur) (e:Below w w w') (o:∀ j b,j < n → S j b → b < w.heap.size):dY t w' S g E n cap l cur :=
 h.keep (e.block g h.blk.lt) fun j b a i=>e.block b (o j b a i)
theorem dY.away {m:Nat} (h:dY t w S g E n cap l cur) (k:w.grownBy w' (some m)) (s:g ≠ m) (o:∀ j b,j < n → S j b → b < w.heap.size∧b ≠ m):dY t w' S g E n cap l cur :=
 h.keep (k.block g h.blk.lt fun e=>s (sI e)) fun j b a i=>k.block b (o j b a i).1 fun e=>(o j b a i).2 (sI e)
theorem xv {c ps:List Value} {a s o i j:Nat} (t:i ≠ j) (d:o+ps.length≤s) (r:i*s+s≤c.length):((c.take (i*s+o) ++ ps ++ c.drop (i*s+o+ps.length)).drop (j*s)).take s=(c.drop (j*s)).take s:=by
 apply List.ext_getElem?;intro k;rw [List.getElem?_take,List.getElem?_take];split
 ·rename_i n;rw [List.getElem?_drop,List.getElem?_drop];have e:(c.take (i*s+o)).length=i*s+o:=by rw [List.length_take];omega
  rcases Nat.lt_or_gt_of_ne t with h|h
  ·have:(i+1)*s≤j*s:=Nat.mul_le_mul_right _ h;rw [Nat.add_mul] at this;rw [List.getElem?_append_right (by rw [List.length_append,e];omega),List.length_append,e,List.getElem?_drop];congr 1;omega
  ·have:(j+1)*s≤i*s:=Nat.mul_le_mul_right _ h;rw [Nat.add_mul] at this;rw [List.append_assoc,List.getElem?_append_left (by rw [e];omega),List.getElem?_take,if_pos oM]
 ·rfl
theorem zm {c ps:List Value} {s o i:Nat} (h:o+ps.length≤s) (n:i*s+s≤c.length):((c.take (i*s+o) ++ ps ++ c.drop (i*s+o+ps.length)).drop (i*s)).take s=((c.drop (i*s)).take s).take o ++ ps ++ ((c.drop (i*s)).take s).drop (o+ps.length):=by
 have a:(c.take (i*s+o)).drop (i*s)=(c.drop (i*s)).take o:=by rw [List.drop_take];congr 1;omega
 have e:(c.take (i*s+o)).length=i*s+o:=by rw [List.length_take];omega
 rw [List.append_assoc,List.drop_append_of_le_length (by rw [e];omega),a,List.take_take,Nat.min_eq_left oM];have t:((c.drop (i*s)).take o).length=o:=by rw [List.length_take,List.length_drop];omega
 rw [List.take_append,t,List.take_of_length_le (by rw [t];omega),List.append_assoc,List.take_append,List.take_of_length_le (l:=ps) oM,List.drop_take,List.drop_drop];rw [Nat.add_assoc (i*s) o,Nat.sub_sub]
theorem dY.put {i o:Nat} {ps:List Value} {x:α} (h:dY t w S g E n cap l cur) (hi:i < n) (k:w.grownBy w' (some g)) (b:Blk w' g E cur') (s:cur'.toList=cur.toList.take (i*t.size+o) ++ ps ++ cur.toList.drop (i*t.size+o+ps.length)) (p:o+ps.length≤t.size)
  (m:∀ j b,j < n → j ≠ i → S j b → S2 j b∧b < w.heap.size∧b ≠ g) (v:t.rep w' (S2 i) (((cur.toList.drop (i*t.size)).take t.size).take o ++ ps ++ ((cur.toList.drop (i*t.size)).take t.size).drop (o+ps.length)) x) :
  dY t w' S2 g E n cap (l.set i x) cur':=by
 have r:(i+1)*t.size≤cap*t.size:=Nat.mul_le_mul_right _ (by have:=h.le;omega);rw [Nat.add_mul,Nat.one_mul,← h.size,← Array.length_toList] at r;refine ⟨by rw [List.length_set];exact h.len,h.le,h.mx,b,?_,fun j y d=>?_⟩
 ·rw [← Array.length_toList,s,List.length_append,List.length_append,List.length_take,List.length_drop,← h.size,← Array.length_toList];omega
 ·rw [s];by_cases e:i=j
  ·subst e;rw [zm p r];rw [List.getElem?_set_self (by rw [h.len];exact hi)] at d;cases d;exact v
  ·rw [xv (a:=0) e p r];rw [List.getElem?_set_ne e] at d;have f:j < n:=by rw [← h.len];exact (List.getElem?_eq_some_iff.1 d).1
   exact t.more (t.keep (h.at_ j y d) fun b c=>k.block b (m j b f (Ne.symm e) c).2.1 fun q=>(m j b f (Ne.symm e) c).2.2 (sI q)) fun b c=>(m j b f (Ne.symm e) c).1
end
theorem Own.toB {α:Type} {t:Ty α} {w:World} {S:Nat → Prop} {base n:Nat} {E:TypeId} {v:Value} {l:List α} (h:Own t w S base E v n l) (D:0 < t.size):(v=.slice none 0 0∧n=0∧l=[]) ∨ ∃ g a o,v=.slice (some ⟨g,0,none⟩) n a∧base≤g∧dY t w (fun _=>S) g E n a l o:=by
 have i:=h.length D;obtain ⟨vs,y,p⟩:=h.out;rcases y.2 with ⟨e,r⟩|⟨g,a,o,rfl,b,z,c,C,F,G⟩
 ·exact .inl ⟨e,r,List.eq_nil_of_length_eq_zero (by rw [i,r])⟩
 ·refine .inr ⟨g,a,o,rfl,b,i,c,C,⟨z⟩,F,fun j x f=>?_⟩;obtain ⟨xs,m,q⟩:=p.at_ j x f;have H:=t.len m;have A:j < n:=by rw [← i];exact (List.getElem?_eq_some_iff.1 f).1
  have s:(j+1)*t.size≤n*t.size:=Nat.mul_le_mul_right _ A;rw [Nat.add_mul,Nat.one_mul] at s;have B:n*t.size≤a*t.size:=Nat.mul_le_mul_right _ c;have:(o.toList.drop (j*t.size)).take t.size=xs:=by
   apply List.ext_getElem?;intro k;rw [List.getElem?_take];split
   ·rename_i I;have d:=q k (xs[k]'oM) (List.getElem?_eq_getElem oM);rw [← G,List.getElem?_take,if_pos oM] at d;rw [List.getElem?_drop,d,List.getElem?_eq_getElem oM]
   ·rw [List.getElem?_eq_none oM]
  rw [this];exact m
theorem Sl.xrows {α:Type} {t:Ty α} {w:World} {S:Nat → Prop} {A:QA} {n i:Nat} {l:List α} (h:Sl t w S A n i l) (s:0 < t.size) :
  ∀ k,k≤n → ∃ vs,RowsOf t w S vs (l.take k)∧vs.length=k*t.size∧∀ j u,vs[j]?=some u → ∃ b off,A=some ⟨b,off,none⟩∧w.cell? ⟨b,off+j,none⟩=some u
 | 0,_=>⟨[],rfl,by simp,by simp⟩
 | k+1,hk=>by
  obtain ⟨vs,r,d,c⟩:=Sl.xrows h s k oM;obtain ⟨x,b,off,xs,g,m,_,_,v,p,f⟩:=h.cells k oM s;refine ⟨vs ++ xs,by rw [bG l k x g];exact r.snoc v,by simp [d,p,Nat.add_mul],fun j u o=>?_⟩;by_cases y:j < vs.length
  ·rw [List.getElem?_append_left y] at o;exact c j u o
  ·rw [List.getElem?_append_right oM] at o;refine ⟨b,off,m,?_⟩;have a:=f (j - vs.length) u o;have e:off+(k*t.size+(j - vs.length))=off+j:=oM;rw [e] at a;exact a
section
variable {P:Program} {ops:Array Oper} {rest:List Oper} {o:Oper} {a:Act} {Q:Exit → Act → World → Prop} {T E:TypeId} {z:Value} {bytes:Nat} {α:Type} {t:Ty α} {S S':Nat → Prop} {v:Value} {n m c base:Nat} {l l2:List α} {A:QA}
theorem xi {K:Act → World → Prop} {W:World} (s x:Operand) (V:o.op=.call { callee:=.builtin .append,args:=#[s,x],argTypes:=#[T,T] }) (q:EI P T E z t.size bytes)
  (X:a.eval s=v) (G:Own t W S base E v n l) (Y:a.eval x=.slice A m c) (sl:Sl t W S' A m c l2) (J:∀ b,S' b → S b)
  (I:n+m≤maxLen) (r:(n+m)*bytes≤140737488355328) (p:base≤W.heap.size) (d:∀ b,S b → b < W.heap.size∧some b ≠ v.ownBlock)
  (h:∀ B w',Own t w' S base E B (n+m) (l ++ l2) → W.grownBy w' v.ownBlock → (B.ownBlock=v.ownBlock ∨ B.ownBlock=some W.heap.size) → K (a.put o.dst B) w'):o.wp P a W K Q:=by
 obtain ⟨i,hi,M,N,O⟩:=info_parts q.hi;obtain ⟨vs,U,Z⟩:=G.out;have F:=sl.n_eq;obtain ⟨H,R,r2,r3⟩:=sl.xrows q.hp m (lR _);rw [List.take_of_length_le (Nat.le_of_eq F)] at R;have one:∀ {α:Type} {t:Ty α} {w:World} {S:Nat → Prop} {l:List α} {vs:List Value},RowsOf t w S vs l → ∀ u ∈ vs,u.oneCell'=true:=by
  intro α t w S l
  induction l with
  | nil=>intro vs L u f;cases L;cases f
  | cons y l ih =>
   rintro vs ⟨ys,an,rfl,hy,L⟩ u f;rcases List.mem_append.1 f with f|f
   ·exact t.one hy u f
   ·exact ih L u f
 have more:∀ {w':World},W.grownBy w' v.ownBlock → RowsOf t w' S H l2:=fun hg=>(R.more J).keep fun b D=>hg.block b (d b D).1 (d b D).2;cases A with
 | none =>
  have hc:=sl.nil_ rfl;have hm:=sl.cap_le;obtain rfl:c=0:=hc;obtain rfl:m=0:=oM;obtain rfl:l2=[]:=List.length_eq_zero_iff.1 F;have e:=run_append_owned_none (P:=P) (w:=W) base T o.type E i t.size q.ht hi v n vs U;unfold Oper.wp;simp [execOp,V,resolve,invoke,builtin,X,Y,e,Result.andThen];refine h v W ?_ ⟨rfl,rfl,rfl,lR _,fun _ _ _=>rfl⟩ (.inl rfl);rw [List.append_nil];exact G
 | some ad =>
  have k:∀ j u,H[j]?=some u → W.cell? (ad.add j)=some u:=by
   intro j u f;obtain ⟨b,off,hA,g⟩:=r3 j u f;cases hA;have C:(⟨b,off,none⟩:Addr).add j=⟨b,off+j,none⟩:=by unfold Addr.add;split <;> simp_all
   rw [C];exact g
  obtain ⟨B,w',e,k1,k2,_,k3⟩:=run_append_own_at (P:=P) W base T o.type E i z t.size bytes q.ht hi M N O q.hz q.hp v n vs U ad m c H r2 k (one R) I r p;unfold Oper.wp execOp;simp only [V,resolve,invoke,builtin,Sem.run_bind,Sem.run_pure,Result.andThen_ok,List.map_toArray,List.map_cons,List.map_nil,X,Y,e];exact h B w' ⟨vs ++ H,k1,(Z.keep fun b D=>k2.block b (d b D).1 (d b D).2).append (more k2)⟩ k2 k3
theorem jP {W:World} (w:o.guard=none) (s x:Operand) (C:o.op=.call { callee:=.builtin .append,args:=#[s,x],argTypes:=#[T,T] }) (g:EI P T E z t.size bytes)
  (D:a.eval s=v) (p:Own t W S base E v n l) (F:a.eval x=.slice A m c) (sl:Sl t W S' A m c l2) (f:∀ b,S' b → S b)
  (d:n+m≤maxLen) (e:(n+m)*bytes≤140737488355328) (i:base≤W.heap.size) (y:∀ b,S b → b < W.heap.size∧some b ≠ v.ownBlock)
  (h:∀ r w',Own t w' S base E r (n+m) (l ++ l2) → W.grownBy w' v.ownBlock → (r.ownBlock=v.ownBlock ∨ r.ownBlock=some W.heap.size) → wpList P ops Q rest (a.put o.dst r) w'):wpList P ops Q (o :: rest) a W :=
 wpList_plain w fun K B=>xi s x C g D p F sl f d e i y fun r w' k j q=>B _ _ (h r w' k j q)
theorem Own.lit {W:World} (e:base≤W.heap.size):Own t (W.alloc (.cells #[] E)) S base E (.slice (some ⟨W.heap.size,0,none⟩) 0 0) 0 [] :=
 ⟨[],⟨by simp,.inr ⟨_,0,#[],rfl,e,heap_alloc_new _ _,lR _,by decide,by simp,by simp⟩⟩,rfl⟩
end
theorem rZ (h v c f b m:Int) (d:af) (W:QA) (nw z:Nat) (B:QA) (nb cb:Nat) (w:World) (J:InK .i64 h) (K:InK .i64 v) (L:InK .i64 c) (t:InK .i64 d.out) (T:InK .i64 d.p) (n:nw=d.w.length) (i:nb=d.bias.length) (N:nw≤1048576) (M:nb≤1048576) (e:d.kind=1) :
  Calls prog 75 #[.agg (nD d W nw z B nb cb),.agg (sN h v c),.agg (sN f b m)] w fun e w'=>e=aY (aE h v c f b m d)∧Below w w w':=by
 obtain ⟨r,y⟩:∃ r,aE h v c f b m d=r:=⟨_,rfl⟩;rw [y];unfold aE at y;have H:=zH y.symm;clear y;have a:=zW w;obtain ⟨w1,w2,w3,w4,C,D,E,F,l1,l2,l3,l4,l,g,G,k,s⟩:=bk4 w (nD d W nw z B nb cb) 84 (sN h v c) 23 (sN f b m) 23 (sN 0 0 0) 23;replace a:=zF s a;clear s;have U:=l.o.cell 0
 ·skip
  have k1:(d.kind == 1)=true:=by simp [e]
  have k2:(d.kind == 2)=false:=by simp [e]
  have X:(d.kind == 3)=false:=by simp [e]
  have Y:(d.kind == 4)=false:=by simp [e]
  have Z:(d.kind == 5)=false:=by simp [e]
  have k6:(d.kind == 6)=false:=by simp [e]
  have k8:(d.kind == 8)=false:=by simp [e]
  have k9:(d.kind == 9)=false:=by simp [e]
  have kl:decide (d.kind < 1)=false:=by simp [e]
  have kg:decide (9 < d.kind)=false:=by simp [e]
  have q:=zH (fun w=>qi h v c d W nw z B nb cb w J K L t n i N M);obtain ⟨⟨⟨O,P,Q⟩,V⟩,A⟩:∃ x,bq h v c d=x:=⟨_,rfl⟩;have R:=zH (show r=((O,P,Q),V) by rw [H.o,← A];simp [e]);rw [A] at q;simp only [aY] at q;clear H A e J K L t T n i N M;go_in
  go_wp2_with (first
   | (refine lG g.o ?_)
   | (refine lG l.o ?_))
  clear C D E F U;refine qM (q.o _) fun w5 I=>?_;obtain ⟨a,l,g,G,k⟩:=uz5 I a l g G k;clear I
  go_wp2_with (first
   | (refine sG (sN O P Q) k.o ?_;intro w7 j S))
  refine rG j ?_;exact ⟨by rw [R.o];rfl,(a.o.away S oM).out⟩
theorem r5 (h v c f b m:Int) (d:af) (W:QA) (nw z:Nat) (B:QA) (nb cb:Nat) (w:World) (J:InK .i64 h) (K:InK .i64 v) (L:InK .i64 c) (t:InK .i64 d.out) (T:InK .i64 d.p) (n:nw=d.w.length) (i:nb=d.bias.length) (N:nw≤1048576) (M:nb≤1048576) (e:d.kind=2) :
  Calls prog 75 #[.agg (nD d W nw z B nb cb),.agg (sN h v c),.agg (sN f b m)] w fun e w'=>e=aY (aE h v c f b m d)∧Below w w w':=by
 obtain ⟨r,y⟩:∃ r,aE h v c f b m d=r:=⟨_,rfl⟩;rw [y];unfold aE at y;have H:=zH y.symm;clear y;have a:=zW w;obtain ⟨w1,w2,w3,w4,C,D,E,F,l1,l2,l3,l4,l,g,G,k,s⟩:=bk4 w (nD d W nw z B nb cb) 84 (sN h v c) 23 (sN f b m) 23 (sN 0 0 0) 23;replace a:=zF s a;clear s;have U:=l.o.cell 0
 ·skip
  have k1:(d.kind == 1)=false:=by simp [e]
  have k2:(d.kind == 2)=true:=by simp [e]
  have X:(d.kind == 3)=false:=by simp [e]
  have Y:(d.kind == 4)=false:=by simp [e]
  have Z:(d.kind == 5)=false:=by simp [e]
  have k6:(d.kind == 6)=false:=by simp [e]
  have k8:(d.kind == 8)=false:=by simp [e]
  have k9:(d.kind == 9)=false:=by simp [e]
  have kl:decide (d.kind < 1)=false:=by simp [e]
  have kg:decide (9 < d.kind)=false:=by simp [e]
  have q:=zH (fun w=>pu h v c d W nw z B nb cb w J K L t n i N M);obtain ⟨⟨⟨O,P,Q⟩,V⟩,A⟩:∃ x,bF h v c d=x:=⟨_,rfl⟩;have R:=zH (show r=((O,P,Q),V) by rw [H.o,← A];simp [e]);rw [A] at q;simp only [aY] at q;clear H A e J K L t T n i N M;go_in
  go_wp2_with (first
   | (refine lG g.o ?_)
   | (refine lG l.o ?_))
  clear C D E F U;refine qM (q.o _) fun w5 I=>?_;obtain ⟨a,l,g,G,k⟩:=uz5 I a l g G k;clear I
  go_wp2_with (first
   | (refine sG (sN O P Q) k.o ?_;intro w7 j S))
  refine rG j ?_;exact ⟨by rw [R.o];rfl,(a.o.away S oM).out⟩
theorem r7 (h v c f b m:Int) (d:af) (W:QA) (nw z:Nat) (B:QA) (nb cb:Nat) (w:World) (J:InK .i64 h) (K:InK .i64 v) (L:InK .i64 c) (t:InK .i64 d.out) (T:InK .i64 d.p) (n:nw=d.w.length) (i:nb=d.bias.length) (N:nw≤1048576) (M:nb≤1048576) (e:d.kind=3) :
  Calls prog 75 #[.agg (nD d W nw z B nb cb),.agg (sN h v c),.agg (sN f b m)] w fun e w'=>e=aY (aE h v c f b m d)∧Below w w w':=by
 obtain ⟨r,y⟩:∃ r,aE h v c f b m d=r:=⟨_,rfl⟩;rw [y];unfold aE at y;have H:=zH y.symm;clear y;have a:=zW w;obtain ⟨w1,w2,w3,w4,C,D,E,F,l1,l2,l3,l4,l,g,G,k,s⟩:=bk4 w (nD d W nw z B nb cb) 84 (sN h v c) 23 (sN f b m) 23 (sN 0 0 0) 23;replace a:=zF s a;clear s;have U:=l.o.cell 0
 ·skip
  have k1:(d.kind == 1)=false:=by simp [e]
  have k2:(d.kind == 2)=false:=by simp [e]
  have X:(d.kind == 3)=true:=by simp [e]
  have Y:(d.kind == 4)=false:=by simp [e]
  have Z:(d.kind == 5)=false:=by simp [e]
  have k6:(d.kind == 6)=false:=by simp [e]
  have k8:(d.kind == 8)=false:=by simp [e]
  have k9:(d.kind == 9)=false:=by simp [e]
  have kl:decide (d.kind < 1)=false:=by simp [e]
  have kg:decide (9 < d.kind)=false:=by simp [e]
  have q:=zH (fun w=>ud h v c d W nw z B nb cb w J K L t n i N M);obtain ⟨⟨⟨O,P,Q⟩,V⟩,A⟩:∃ x,d9 h v c d=x:=⟨_,rfl⟩;have R:=zH (show r=((O,P,Q),V) by rw [H.o,← A];simp [e]);rw [A] at q;simp only [aY] at q;clear H A e J K L t T n i N M;go_in
  go_wp2_with (first
   | (refine lG g.o ?_)
   | (refine lG l.o ?_))
  clear C D E F U;refine qM (q.o _) fun w5 I=>?_;obtain ⟨a,l,g,G,k⟩:=uz5 I a l g G k;clear I
  go_wp2_with (first
   | (refine sG (sN O P Q) k.o ?_;intro w7 j S))
  refine rG j ?_;exact ⟨by rw [R.o];rfl,(a.o.away S oM).out⟩
theorem r8 (h v c f b m:Int) (d:af) (W:QA) (nw K:Nat) (B:QA) (nb cb:Nat) (w:World) (M:InK .i64 h) (N:InK .i64 v) (D:InK .i64 c) (a:InK .i64 d.out) (U:InK .i64 d.p) (A:nw=d.w.length) (z:nb=d.bias.length) (X:nw≤1048576) (V:nb≤1048576) (e:d.kind=4) :
  Calls prog 75 #[.agg (nD d W nw K B nb cb),.agg (sN h v c),.agg (sN f b m)] w fun e w'=>e=aY (aE h v c f b m d)∧Below w w w':=by
 obtain ⟨r,y⟩:∃ r,aE h v c f b m d=r:=⟨_,rfl⟩;rw [y];unfold aE at y;have J:=zH y.symm;clear y;have t:=zW w;obtain ⟨w1,w2,w3,w4,E,F,G,H,l1,l2,l3,l4,l,n,I,g,i⟩:=bk4 w (nD d W nw K B nb cb) 84 (sN h v c) 23 (sN f b m) 23 (sN 0 0 0) 23;replace t:=zF i t;clear i;have Y:=l.o.cell 0
 ·skip
  have k1:(d.kind == 1)=false:=by simp [e]
  have k2:(d.kind == 2)=false:=by simp [e]
  have k3:(d.kind == 3)=false:=by simp [e]
  have k4:(d.kind == 4)=true:=by simp [e]
  have k5:(d.kind == 5)=false:=by simp [e]
  have k6:(d.kind == 6)=false:=by simp [e]
  have k8:(d.kind == 8)=false:=by simp [e]
  have k9:(d.kind == 9)=false:=by simp [e]
  have kl:decide (d.kind < 1)=false:=by simp [e]
  have kg:decide (9 < d.kind)=false:=by simp [e]
  have q:=zH (fun w=>jk h v c d.k d.s d.p c w M N D D);obtain ⟨Z,n4,n5⟩:=uc3 l 3 4 5;have S:=n.o.cell 2;obtain ⟨⟨⟨O,P,Q⟩,xe⟩,C⟩:∃ x,aH h v c d.k d.s d.p c=x:=⟨_,rfl⟩;have R:=zH (show r=((O,P,Q),xe) by rw [J.o,← C];simp [e]);rw [C] at q;simp only [aY] at q;clear J C e M N D a U A z X V;go_in
  go_wp2_with (first
   | (refine lG n.o ?_))
  clear E F G H Y Z n4 n5 S;refine qM (q.o _) fun w5 L=>?_;obtain ⟨t,l,n,I,g⟩:=uz5 L t l n I g;clear L
  go_wp2_with (first
   | (refine sG (sN O P Q) g.o ?_;intro w7 j T))
  refine rG j ?_;exact ⟨by rw [R.o];rfl,(t.o.away T oM).out⟩
theorem r9 (h v c f b m:Int) (d:af) (W:QA) (nw K:Nat) (B:QA) (nb cb:Nat) (w:World) (M:InK .i64 h) (N:InK .i64 v) (D:InK .i64 c) (a:InK .i64 d.out) (U:InK .i64 d.p) (A:nw=d.w.length) (z:nb=d.bias.length) (X:nw≤1048576) (V:nb≤1048576) (e:d.kind=5) :
  Calls prog 75 #[.agg (nD d W nw K B nb cb),.agg (sN h v c),.agg (sN f b m)] w fun e w'=>e=aY (aE h v c f b m d)∧Below w w w':=by
 obtain ⟨r,y⟩:∃ r,aE h v c f b m d=r:=⟨_,rfl⟩;rw [y];unfold aE at y;have J:=zH y.symm;clear y;have t:=zW w;obtain ⟨w1,w2,w3,w4,E,F,G,H,l1,l2,l3,l4,l,n,I,g,i⟩:=bk4 w (nD d W nw K B nb cb) 84 (sN h v c) 23 (sN f b m) 23 (sN 0 0 0) 23;replace t:=zF i t;clear i;have Y:=l.o.cell 0
 ·skip
  have k1:(d.kind == 1)=false:=by simp [e]
  have k2:(d.kind == 2)=false:=by simp [e]
  have k3:(d.kind == 3)=false:=by simp [e]
  have k4:(d.kind == 4)=false:=by simp [e]
  have k5:(d.kind == 5)=true:=by simp [e]
  have k6:(d.kind == 6)=false:=by simp [e]
  have k8:(d.kind == 8)=false:=by simp [e]
  have k9:(d.kind == 9)=false:=by simp [e]
  have kl:decide (d.kind < 1)=false:=by simp [e]
  have kg:decide (9 < d.kind)=false:=by simp [e]
  have q:=zH (fun w=>jk h v c d.k d.s d.p c w M N D D);obtain ⟨Z,n4,n5⟩:=uc3 l 3 4 5;have S:=n.o.cell 2;obtain ⟨⟨⟨O,P,Q⟩,xe⟩,C⟩:∃ x,aH h v c d.k d.s d.p c=x:=⟨_,rfl⟩;have R:=zH (show r=((O,P,Q),xe) by rw [J.o,← C];simp [e]);rw [C] at q;simp only [aY] at q;clear J C e M N D a U A z X V;go_in
  go_wp2_with (first
   | (refine lG n.o ?_))
  clear E F G H Y Z n4 n5 S;refine qM (q.o _) fun w5 L=>?_;obtain ⟨t,l,n,I,g⟩:=uz5 L t l n I g;clear L
  go_wp2_with (first
   | (refine sG (sN O P Q) g.o ?_;intro w7 j T))
  refine rG j ?_;exact ⟨by rw [R.o];rfl,(t.o.away T oM).out⟩
theorem sn (h v c g k b:Int) (d:af) (W:QA) (nw U:Nat) (B:QA) (nb cb:Nat) (w:World) (V:InK .i64 h) (X:InK .i64 v) (Y:InK .i64 c) (z:InK .i64 d.out) (hp:InK .i64 d.p) (O:nw=d.w.length) (N:nb=d.bias.length) (mw:nw≤1048576) (mb:nb≤1048576) (e:d.kind=9) :
  Calls prog 75 #[.agg (nD d W nw U B nb cb),.agg (sN h v c),.agg (sN g k b)] w fun e w'=>e=aY (aE h v c g k b d)∧Below w w w':=by
 obtain ⟨r,J⟩:∃ r,aE h v c g k b d=r:=⟨_,rfl⟩;rw [J];unfold aE at J;have T:=zH J.symm;clear J;have t:=zW w;obtain ⟨w1,w2,w3,w4,D,E,F,G,l1,l2,l3,l4,i,a,j,s,C⟩:=bk4 w (nD d W nw U B nb cb) 84 (sN h v c) 23 (sN g k b) 23 (sN 0 0 0) 23;replace t:=zF C t;clear C;have A:=i.o.cell 0
 ·skip
  have k1:(d.kind == 1)=false:=by simp [e]
  have k2:(d.kind == 2)=false:=by simp [e]
  have k3:(d.kind == 3)=false:=by simp [e]
  have k4:(d.kind == 4)=false:=by simp [e]
  have k5:(d.kind == 5)=false:=by simp [e]
  have k6:(d.kind == 6)=false:=by simp [e]
  have k8:(d.kind == 8)=false:=by simp [e]
  have k9:(d.kind == 9)=true:=by simp [e]
  have kl:decide (d.kind < 1)=false:=by simp [e]
  have kg:decide (9 < d.kind)=false:=by simp [e]
  obtain ⟨I,H⟩:=zh2 (fun w=>bX h c v w V X Y) (eX (h:=h) (v:=v) (c:=c));have P:=(aF h v c).1;have q:=zH (show r=cG d.kind h v c g k b d.p by rw [T.o];simp [e]);have n:=q.o;unfold cG at n;obtain ⟨m,M⟩:∃ m,ag h v c=m:=⟨_,rfl⟩;obtain ⟨eq,L⟩:∃ x,([h,v,c] == [g,k,b])=x:=⟨_,rfl⟩;have Q:=zH (fun w=>ip w h v c g k b);rw [M,L] at n;rw [M] at I H P;rw [L] at Q;replace q:=zH n;clear n M L T V X Y z hp O N mw mb;by_cases y:m=0
  ·have t1:(m == 0)=true:=by simp [y]
   have R:=zH (show r=noS 5 by rw [q.o,if_pos y]);clear y q P H e;go_in
   go_wp2_with (first
    | (refine lG a.o ?_))
   clear D E F G A;refine qM (I.o _) fun w5 l=>?_;obtain ⟨t,i,a,j,s⟩:=uz5 l t i a j s;clear l;have A:=i.o.cell 0
   go_upto_region 12 with (fail)
   go_wp2_with (first
    | (refine sG (sN 0 0 0) s.o ?_;intro w7 f K))
   refine rG f ?_;exact ⟨by rw [R.o];rfl,(t.o.away K oM).out⟩
  have t1:(m == 0)=false:=by simpa using y
  have S:=zH (show r=(if d.kind=6∧eq=false then noS 5 else if d.kind=8 then dt h v c d.p else if d.kind=9 then ((1,1,m),0) else ((h,v,c),0)) by rw [q.o,if_neg y]);have Z:=H.o y;clear q y P H;have R:=zH (show r=((1,1,m),0) by rw [S.o];simp [e]);clear S e Q Z;go_in
  go_wp2_with (first
   | (refine lG a.o ?_))
  clear D E F G A;refine qM (I.o _) fun w5 l=>?_;obtain ⟨t,i,a,j,s⟩:=uz5 l t i a j s;clear l;have A:=i.o.cell 0
  go_upto_region 14 with (fail)
  go_wp2_with (first
   | (refine lG a.o ?_))
  clear A;refine qM (I.o _) fun w6 l=>?_;obtain ⟨t,i,a,j,s⟩:=uz5 l t i a j s;clear l
  go_wp2_with (first
   | (refine sG (sN 1 1 m) s.o ?_;intro w7 f K))
  refine rG f ?_;exact ⟨by rw [R.o];rfl,(t.o.away K oM).out⟩
theorem nr (h v c n s i:Int) (d:af) (W:QA) (nw r:Nat) (B:QA) (nb cb:Nat) (w:World) (m:InK .i64 h) (f:InK .i64 v) (y:InK .i64 c) (t:InK .i64 d.out) (l:InK .i64 d.p) (o:nw=d.w.length) (a:nb=d.bias.length) (g:nw≤1048576) (b:nb≤1048576) (k:1≤d.kind∧d.kind≤9) :
  Calls prog 75 #[.agg (nD d W nw r B nb cb),.agg (sN h v c),.agg (sN n s i)] w fun e w'=>e=aY (aE h v c n s i d)∧Below w w w':=by
 rcases (show d.kind=1 ∨ d.kind=2 ∨ d.kind=3 ∨ d.kind=4 ∨ d.kind=5 ∨ d.kind=6 ∨ d.kind=7 ∨ d.kind=8 ∨ d.kind=9 by omega) with e|e|e|e|e|e|e|e|e
 ·exact rZ h v c n s i d W nw r B nb cb w m f y t l o a g b e
 ·exact r5 h v c n s i d W nw r B nb cb w m f y t l o a g b e
 ·exact r7 h v c n s i d W nw r B nb cb w m f y t l o a g b e
 ·exact r8 h v c n s i d W nw r B nb cb w m f y t l o a g b e
 ·exact r9 h v c n s i d W nw r B nb cb w m f y t l o a g b e
 ·exact sd h v c n s i d W nw r B nb cb w m f y t l o a g b e
 ·exact sf h v c n s i d W nw r B nb cb w m f y t l o a g b e
 ·exact sj h v c n s i d W nw r B nb cb w m f y t l o a g b e
 ·exact sn h v c n s i d W nw r B nb cb w m f y t l o a g b e
def jU (t u:ae):Bool:=([t.h,t.v,t.c] == [u.h,u.v,u.c]) && decide (t.data=u.data)
theorem kI (t u:ae) (A B:QA) (n c m d:Nat) (w:World) (h:xA w A n c t.data) (E:xA w B m d u.data) :
  Calls prog 37 #[.agg (tN t.h t.v t.c A n c),.agg (tN u.h u.v u.c B m d)] w fun e w'=>e=.returned (.bool (jU t u))∧Below w w w':=by
 obtain ⟨r,a⟩:∃ r,(w.alloc (.cells (tN t.h t.v t.c A n c) 29)).alloc (.cells (tN u.h u.v u.c B m d) 29)=r:=⟨_,rfl⟩;have y:Below w w r:=by rw [← a];exact ((qB _ _).alloc (lR _) _).alloc sM _
 obtain ⟨i,f⟩:=zh2 (oR A B n c m d t.data u.data r (h.later y (lR _)) (E.later y (lR _))) (show jU t u=(([t.h,t.v,t.c] == [u.h,u.v,u.c]) && decide (t.data=u.data)) from rfl);obtain ⟨j,x,g,J⟩:=t;obtain ⟨q,z,k,K⟩:=u;simp only at i f a ⊢;have p:=zH (fun w=>gg (P:=prog) (t:=23) (k0:=.i64) (k1:=.i64) (k2:=.i64) w underlying23 kM dM ⟨rfl,rfl,rfl⟩ underlying3 underlying3 underlying3 kM kM kM j x g q z k);obtain ⟨b,l⟩:∃ b,([j,x,g] == [q,z,k])=b:=⟨_,rfl⟩;obtain ⟨I,s⟩:∃ b,decide (J=K)=b:=⟨_,rfl⟩;rw [l,s] at f;rw [l] at p;rw [s] at i;rw [f.o];obtain ⟨F,G,D,C⟩:=zh4 (show Blk r w.heap.size 29 (tN j x g A n c) by rw [← a];exact (Blk.now _ _ _ _ rfl).past _) (show Blk r (w.heap.size+1) 29 (tN q z k B m d) by rw [← a];exact Blk.now _ _ _ _ sM) a y;clear a y h E l s f;obtain ⟨L,M,N,O⟩:=uc4 F 0 1 2 3;obtain ⟨Q,R,S,T⟩:=uc4 G 0 1 2 3;go_in;cases b
 ·go_wp2_with (refine dI 23 _ (.tmp 6) (.tmp 8) rfl _ _ rfl rfl kM kM _ (p.o _) ?_)
  go_ret;rw [D.o];exact ⟨rfl,C.o⟩
 ·go_wp2_with (refine dI 23 _ (.tmp 6) (.tmp 8) rfl _ _ rfl rfl kM kM _ (p.o _) ?_)
  rw [D.o];refine i.o.mono ?_;rintro e U ⟨rfl,l⟩;have H:=zH (aa l C.o);clear l;cases I;all_goals (
   go_wp2;go_ret;exact ⟨rfl,H.o⟩)
end Go.Proofs.YtbecbfpoahhpnaaGreat
namespace Go.Proofs.YtbecbfpoahhpnaaGreat
open Tryz
def bf:Nat → (Nat → Int) → Int
 | 0,_=>0
 | n+1,f=>bf n f+f n
theorem eF {n:Nat} {f g:Nat → Int} (h:∀ i,i < n → f i=g i):bf n f=bf n g:=by
 induction n with
 | zero=>rfl
 | succ n ih=>rw [bf,bf,ih (fun i hi=>h i oM),h n oM]
theorem Cn (n:Nat) (f g:Nat → Int):bf n (fun i=>f i+g i)=bf n f+bf n g:=by
 induction n with
 | zero=>rfl
 | succ n ih=>simp only [bf,ih];omega
theorem Af (n:Nat):bf n (fun _=>0)=0:=by
 induction n with
 | zero=>rfl
 | succ n ih=>simp only [bf,ih];rfl
theorem nI (a b:Nat) (f:Nat → Int):bf (a+b) f=bf a f+bf b (fun i=>f (a+i)):=by
 induction b with
 | zero=>simp [bf]
 | succ b ih=>rw [← Nat.add_assoc,bf,ih,bf];omega
theorem ov (a b:Nat) (f:Nat → Int):bf (a*b) f=bf a (fun i=>bf b (fun j=>f (i*b+j))):=by
 induction a with
 | zero=>simp [bf]
 | succ a ih=>rw [Nat.add_mul,Nat.one_mul,nI,ih,bf]
theorem Ae (a b:Nat) (g:Nat → Nat → Int):bf a (fun i=>bf b (g i))=bf b (fun j=>bf a (fun i=>g i j)):=by
 induction a with
 | zero=>simp only [bf];rw [Af]
 | succ a ih=>simp only [bf];rw [ih,Cn]
theorem xN (f:Nat → Int):bf 3 f=f 0+f 1+f 2:=by simp [bf]
theorem Dr {n:Nat} {f:Nat → Int} {b:Nat} (h:∀ i,i < n → (f i).natAbs≤b):(bf n f).natAbs≤n*b:=by
 induction n with
 | zero=>simp [bf]
 | succ n ih =>
  have e:=ih (fun i hi=>h i oM);have t:=h n oM;rw [bf,Nat.succ_mul];omega
end Go.Proofs.YtbecbfpoahhpnaaGreat
namespace Go.Proofs.YtbecbfpoahhpnaaGreat
open Tryz
def px (H V C:Nat) (l:List Int) (za:Int) (y x:Int) (c:Nat):Int:=if 0≤y∧y < H∧0≤x∧x < V then l.getD ((y.toNat*V+x.toNat)*C+c) 0 - za else 0
def jR (H V C:Nat) (l:List Int) (za:Int) (w:List Int) (K S P:Nat) (o y x:Nat):Int :=
 bf (K*K*C) fun q=>w.getD (o*(K*K*C)+q) 0*px H V C l za ((y*S+q / C / K:Nat) - P) ((x*S+q / C % K:Nat) - P) (q % C)
theorem nW (i j K C c:Nat) (t:j < K) (e:c < C):((i*K+j)*C+c) / C / K=i∧((i*K+j)*C+c) / C % K=j∧((i*K+j)*C+c) % C=c:=by
 have a:((i*K+j)*C+c) / C=i*K+j:=by
  rw [Nat.mul_comm,Nat.mul_add_div oM,Nat.div_eq_of_lt e,Nat.add_zero]
 have o:((i*K+j)*C+c) % C=c:=by
  rw [Nat.mul_comm,Nat.mul_add_mod,Nat.mod_eq_of_lt e]
 rw [a,o];refine ⟨?_,?_,rfl⟩
 ·rw [Nat.mul_comm,Nat.mul_add_div oM,Nat.div_eq_of_lt t,Nat.add_zero]
 ·rw [Nat.mul_comm,Nat.mul_add_mod,Nat.mod_eq_of_lt t]
theorem wC (H V C:Nat) (l:List Int) (e:Int) (w:List Int) (K S P:Nat) (o y x:Nat) :
  jR H V C l e w K S P o y x=bf K fun i=>bf K fun j=>bf C fun c=>w.getD (((o*K+i)*K+j)*C+c) 0*px H V C l e ((y*S+i:Nat) - P) ((x*S+j:Nat) - P) c:=by
 unfold jR;rw [ov,ov];refine eF fun i hi=>eF fun j h=>eF fun c s=>?_;obtain ⟨t,a,n⟩:=nW i j K C c h s;rw [t,a,n];congr 2;rw [show o*(K*K*C)+((i*K+j)*C+c)=((o*K+i)*K+j)*C+c from ?_];simp only [Nat.add_mul,Nat.mul_assoc,Nat.mul_add]
 ac_rfl
theorem uJ (xs:List (List Int)) (e:List W3) (p:Nat):∀ k,eI xs e p k=bf k fun r=>(xs.getD r []).getD p 0*(e.getD r (0,0,0)).1+(xs.getD r []).getD (p+1) 0*(e.getD r (0,0,0)).2.1+(xs.getD r []).getD (p+2) 0*(e.getD r (0,0,0)).2.2
 | 0=>rfl
 | k+1=>by rw [eI,bf,uJ xs e p k]
def hX (H V C:Nat) (l:List Int) (za:Int) (P:Nat) (y:Int) (c:Nat):List Int:=(List.range (V+2*P)).map fun j:Nat=>px H V C l za y ((j:Int) - (P:Int)) c
def oC (w:List Int) (C:Nat) (o i c:Nat):W3:=(w.getD (((o*3+i)*3+0)*C+c) 0,w.getD (((o*3+i)*3+1)*C+c) 0,w.getD (((o*3+i)*3+2)*C+c) 0)
def sL (H V C:Nat) (l:List Int) (za:Int) (P y:Nat):List (List Int):=(List.range (3*C)).map fun r:Nat=>hX H V C l za P ((y+r / C:Nat) - P) (r % C)
def sQ (w:List Int) (C o:Nat):List W3:=(List.range (3*C)).map fun r:Nat=>oC w C o (r / C) (r % C)
theorem qA (H V C:Nat) (l:List Int) (e:Int) (P:Nat) (y:Int) (c j:Nat) (t:j < V+2*P):(hX H V C l e P y c).getD j 0=px H V C l e y ((j:Int) - P) c:=by
 unfold hX;rw [gD,List.getElem?_map,List.getElem?_range t];rfl
theorem jd {α:Type} (n:Nat) (f:Nat → α) (z:α) (i:Nat) (h:i < n):((List.range n).map f).getD i z=f i:=by
 rw [gD,List.getElem?_map,List.getElem?_range h];rfl
theorem yL (H V C:Nat) (l:List Int) (a:Int) (w:List Int) (P o y x:Nat) (h:x+2 < V+2*P) :
  eI (sL H V C l a P y) (sQ w C o) x (3*C)=jR H V C l a w 3 1 P o y x:=by
 rw [uJ,wC,ov];refine eF fun i hi=>?_;rw [Ae,];refine eF fun c e=>?_;have t:i*C+c < 3*C:=by
  have:i*C≤2*C:=Nat.mul_le_mul_right C oM;omega
 have n:(i*C+c) / C=i:=by rw [Nat.mul_comm,Nat.mul_add_div oM,Nat.div_eq_of_lt e,Nat.add_zero]
 have s:(i*C+c) % C=c:=by rw [Nat.mul_comm,Nat.mul_add_mod,Nat.mod_eq_of_lt e]
 unfold sL sQ;rw [jd _ _ _ _ t,jd _ _ _ _ t,n,s,qA _ _ _ _ _ _ _ _ _ oM,qA _ _ _ _ _ _ _ _ _ oM,qA _ _ _ _ _ _ _ _ _ oM,xN];simp only [oC,Nat.mul_one,Nat.add_zero];rw [Int.mul_comm (px _ _ _ _ _ _ ((x:Nat) - (P:Int)) _),Int.mul_comm (px _ _ _ _ _ _ ((((x+1:Nat)):Int) - (P:Int)) _),Int.mul_comm (px _ _ _ _ _ _ ((((x+2:Nat)):Int) - (P:Int)) _)]
end Go.Proofs.YtbecbfpoahhpnaaGreat
namespace Go.Proofs.YtbecbfpoahhpnaaGreat
open Go.RowKit Go.ChangeShapes Go.WideShapes Fx Tryz
def i3 (k:IntKind) (l:Nat → Int):Array Value:=#[.int k (l 0),.int k (l 1),.int k (l 2)]
theorem DQ (k:IntKind) (f:Nat → Int):(i3 k f).all (·.oneCell')=true:=by rw [← Array.all_toList];rfl
theorem Dw (e:IntKind) (f g:Nat → Int) (k:Nat) (h:k < 3):(i3 e (upI f g k)).setIfInBounds k (.int e (f k))=i3 e (upI f g (k+1)):=by
 unfold i3 upI
 match k,h with
 | 0,_=>rfl
 | 1,_=>rfl
 | 2,_=>rfl
theorem Dv (e:IntKind) (f g:Nat → Int):i3 e (upI f g 3)=i3 e f:=by unfold i3 upI;simp
theorem tB (d:af) (W:QA) (nw i:Nat) (B:QA) (nb cb:Nat) (w:World) :
  Calls prog 191 #[.agg (nD d W nw i B nb cb)] w fun e w'=>e=.returned (.bool (decide (d.k=3∧d.s=1)))∧Below w w w':=by
 have o:=zW w;obtain ⟨c,r,n,o⟩:=nF o (nD d W nw i B nb cb) 84;obtain ⟨l,c4⟩:=uc2 n 3 4;by_cases t:d.k=3
 ·by_cases a:d.s=1
  ·have t3:(d.k == 3)=true:=by rw [t];rfl
   have h:(d.s == 1)=true:=by rw [a];rfl
   rw [show decide (d.k=3∧d.s=1)=true by simp [t,a]];clear t a;go_in;go_wp2;go_ret;exact ⟨rfl,o.u⟩
  ·have t3:(d.k == 3)=true:=by rw [t];rfl
   have h:(d.s == 1)=false:=by simpa using a
   rw [show decide (d.k=3∧d.s=1)=false by simp [a]];clear t a;go_in;go_wp2;go_ret;exact ⟨rfl,o.u⟩
 ·have t3:(d.k == 3)=false:=by simpa using t
  rw [show decide (d.k=3∧d.s=1)=false by simp [t]];clear t;go_in;go_wp2;go_ret;exact ⟨rfl,o.u⟩
theorem Dt (H V:Int) (C:Nat) (A:QA) (n y:Nat) (d:af) (W:QA) (nw D:Nat) (B:QA) (nb cb:Nat) (o i c:Nat) (w:World)
  (K:xA w W nw D d.w) (hC:C≤1024) (ho:o≤1024) (hi:i < 3) (hc:c < C) (hn:(o+1)*(9*C)≤nw) :
  Calls prog 239 #[.agg #[.int .i64 H,.int .i64 V,.int .i64 C,.slice A n y,.int .i64 d.kind,.int .i64 d.a,.int .i64 d.b,.int .i64 d.k,.int .i64 d.s,.int .i64 d.p,.int .i64 d.out,.int .i8 d.za,.int .i8 d.zb,.slice W nw D,.slice B nb cb,.int .i32 d.qm,.int .i64 d.qs,.int .i8 d.qz,.int .i32 d.rm,.int .i64 d.rs,.int .i8 d.rz,.int .i8 d.lo,.int .i8 d.hi],.int .i64 o,.int .i64 i,.int .i64 c] w fun e w'=>e=.returned (.agg (i3 .i8 (fun j=>d.w.getD (((o*3+i)*3+j)*C+c) 0)))∧Below w w w':=by
 have h:∀ j,j < 3 → ((o*3+i)*3+j)*C+c < nw:=by
  intro j hj;have h1:((o*3+i)*3+j)*C+c < ((o*3+i)*3+j+1)*C:=by rw [Nat.succ_mul];omega
  have h2:((o*3+i)*3+j+1)*C≤((o+1)*9)*C:=Nat.mul_le_mul_right C oM;rw [Nat.mul_assoc] at h2;omega
 obtain ⟨bw,ow,U,-,-,-,-⟩:=K.int_at _ (h 0 oM);have m2:nw≤9223372036854775807:=lT K.cap_le K.max_le;have l:=zW w;have m:=zH (Old.now K);obtain ⟨w1,w2,w3,M,N,Z,_,_,_,g,x,r,L⟩:=bk3 w #[.int .i64 H,.int .i64 V,.int .i64 C,.slice A n y,.int .i64 d.kind,.int .i64 d.a,.int .i64 d.b,.int .i64 d.k,.int .i64 d.s,.int .i64 d.p,.int .i64 d.out,.int .i8 d.za,.int .i8 d.zb,.slice W nw D,.slice B nb cb,.int .i32 d.qm,.int .i64 d.qs,.int .i8 d.qz,.int .i32 d.rm,.int .i64 d.rs,.int .i8 d.rz,.int .i8 d.lo,.int .i8 d.hi] 317 #[.int .i8 0,.int .i8 0,.int .i8 0] 345 #[.int .i8 0,.int .i8 0,.int .i8 0] 345;obtain ⟨l,m⟩:=uz2 L l m;clear L;have HB:=zH h;clear K h hn;subst U;obtain ⟨t,v⟩:∃ f:Nat → Int,f=fun j=>d.w.getD (((o*3+i)*3+j)*C+c) 0:=⟨_,rfl⟩;rw [← v];have R:=zH v;clear v;go_in;go_wp2_with fail;have l1:=zL M;have l2:=zL N;clear M N Z;replace r:=zH (show Blk w3 w2.heap.size 345 (i3 .i8 (upI t (fun _=>0) 0)) by rw [uF];exact r.o);obtain ⟨g0,S⟩:∃ n,w.heap.size=n:=⟨_,rfl⟩;obtain ⟨g1,O⟩:∃ n,w1.heap.size=n:=⟨_,rfl⟩;obtain ⟨P,T⟩:∃ n,w2.heap.size=n:=⟨_,rfl⟩;rw [S,O] at l1;rw [O,T] at l2;rw [S] at g;rw [O] at x;rw [T] at r;rw [S,O,T];go_loopw [11] (fun Y wr=>∃ k:Nat,k≤3∧Y=.int .i64 k∧Far w wr∧Old w (ab .i8) wr (some ⟨bw,ow,none⟩) nw D d.w∧Blk wr g0 317 #[.int .i64 H,.int .i64 V,.int .i64 C,.slice A n y,.int .i64 d.kind,.int .i64 d.a,.int .i64 d.b,.int .i64 d.k,.int .i64 d.s,.int .i64 d.p,.int .i64 d.out,.int .i8 d.za,.int .i8 d.zb,.slice (some ⟨bw,ow,none⟩) nw D,.slice B nb cb,.int .i32 d.qm,.int .i64 d.qs,.int .i8 d.qz,.int .i32 d.rm,.int .i64 d.rs,.int .i8 d.rz,.int .i8 d.lo,.int .i8 d.hi]∧Blk wr g1 345 #[.int .i8 0,.int .i8 0,.int .i8 0]∧Blk wr P 345 (i3 .i8 (upI t (fun _=>0) k))) (fun Y _=>3 - (intOf Y).toNat)
 case atStart=>exact ⟨0,zl _,rfl,l.o,m.o,g.o,x.o,r.o⟩
 case round =>
  obtain ⟨k,hk,rfl,hf,J,E,G,F⟩:=hrel;clear l m g x r;obtain ⟨l,m,g,x,r⟩:=zh5 hf J E G F;clear hf J E G F;by_cases I:k < 3
  ·have p1:(k:Int) < 3:=oM;have hb:=HB.o k I;obtain ⟨b',o',e',-,-,cq,-⟩:=m.o.out.int_at _ hb;simp only [Option.some.injEq,Addr.mk.injEq,and_true] at e';obtain ⟨rfl,rfl⟩:=e';rw [show d.w.getD (((o*3+i)*3+k)*C+c) 0=t k by rw [R.o]] at cq;obtain ⟨q,X⟩:∃ q,((o*3+i)*3+k)*C=q:=⟨_,rfl⟩;have ah:((((o:Int)*3+(i:Int))*3+(k:Int))*(C:Int))=(q:Int):=by rw [← X];simp
   rw [X] at cq hb;clear X;have p2:(q:Int)+(c:Int) < nw:=oM;have p3:(o:Int)≤1024:=oM;have p4:(i:Int) < 3:=oM;obtain ⟨c2,an⟩:=uc2 g 2 13;have SS:=zH (Dw .i8 t (fun _=>0) k I)
   go_wp2_with (refine wpList_store_one rfl 80 (.tmp 34) (.tmp 33) rfl P k (.int .i8 (t k)) rfl rfl rfl rfl _ (i3 .i8 (upI t (fun _=>0) k)) (i3 .i8 (upI t (fun _=>0) (k+1))) r.o (by simp [i3];omega) kM (by rw [← SS.o];exact iC _ _ _ (by simp [i3];omega)) ?_;intro w5 Q z)
   exact ⟨⟨k+1,by omega,by go_num,l.o.away z oM,m.o.away z oM,g.o.away z (.inl oM),x.o.away z (.inl oM),Q⟩,by simp [intOf];omega⟩
  ·obtain rfl:k=3:=oM;have r:=zH (show Blk wr P 345 (i3 .i8 t) by rw [← Dv .i8 t (fun _=>0)];exact r.o)
   go_wp2_with (first|(refine wpList_load_blk rfl 345 (.tmp 9) rfl P 0 rfl _ (i3 .i8 t) (i3 .i8 t) _ r.o underlying345 rfl (by show _=some 3;kernel_rfl) rfl ?_)|(refine wpList_store_all rfl 345 (.tmp 8) (.tmp 36) rfl g1 (i3 .i8 t) rfl rfl _ _ x.o rfl (by show _=some 3;kernel_rfl) (DQ _ _) ?_;intro w5 Q z))
   refine eC rfl Q rfl underlying345 (by show _=some 3;kernel_rfl) rfl ?_;exact ⟨rfl,by have:=l.o.away z oM;exact this.out⟩
end Go.Proofs.YtbecbfpoahhpnaaGreat
