/- Four numbers as sums of them (layer 14): the walks of four.turned and four.sums. -/
import Derived.Test.YtbecbfpoahhpnaaGreatJ00
import Derived.Laws.CopyOwn
set_option linter.unusedVariables false
set_option linter.unusedSimpArgs false
set_option maxRecDepth 100000
set_option maxHeartbeats 16000000
namespace Go.Proofs.YtbecbfpoahhpnaaGreat
open Go.RowKit Go.ChangeShapes Go.WideShapes Fx Tryz
def cv (x:Fx.Wd):Value:=.complex .f64 x.1 x.2
def c4 (f:Nat → Fx.Wd):Array Value:=#[cv (f 0),cv (f 1),cv (f 2),cv (f 3)]
theorem kO (f:Nat → Fx.Wd) (i:Nat) (h:i < 4):(c4 f)[i]?=some (cv (f i)):=by
 match i,h with
 | 0,_=>rfl
 | 1,_=>rfl
 | 2,_=>rfl
 | 3,_=>rfl
theorem yl (f g:Nat → Fx.Wd) (k:Nat) (h:k < 4) (e:∀ i,i < 4 → i ≠ k → g i=f i):(c4 f).setIfInBounds k (cv (g k))=c4 g:=by
 unfold c4
 match k,h with
 | 0,_=>rw [e 1 oM oM,e 2 oM oM,e 3 oM oM];rfl
 | 1,_=>rw [e 0 oM oM,e 2 oM oM,e 3 oM oM];rfl
 | 2,_=>rw [e 0 oM oM,e 1 oM oM,e 3 oM oM];rfl
 | 3,_=>rw [e 0 oM oM,e 1 oM oM,e 2 oM oM];rfl
theorem xS (x q:Fx.Wd) (z p:Int × Int) (B:Nat) (n:Int) (m:Nat) (w:World) (c:Cd x z) (l:Cd q p) (h:Quarter p) (f:Cb z B) (r:B < 2 ^ 51) (b:0≤n) (A:n≤9) (d:n % 4=m) :
  Calls prog 265 #[.complex .f64 x.1 x.2,.complex .f64 q.1 q.2,.int .i64 n] w fun e w'=>e=.returned (.complex .f64 (turnW q x m).1 (turnW q x m).2)∧w'=w:=by
 have v:=zH (fun k t w=>run_complex_mul (P:=prog) w t _ _ _ _ _ _ (turn_mul l h c f r k));have j:m < 4:=oM;have a:n.tmod 4=m:=by rw [Int.tmod_eq_emod_of_nonneg b];exact d
 clear c l h f r;go_in;go_wp2_with fail;try rw [a]
 try rw [d]
 go_loopw [0,9] (fun y i wr=>∃ k:Nat,k≤m∧i=.int .i64 k∧y=.complex .f64 (turnW q x k).1 (turnW q x k).2∧wr=w) (fun _ i _=>m - (intOf i).toNat)
 case atStart=>exact ⟨0,zl _,rfl,rfl,rfl⟩
 case round =>
  obtain ⟨k,C,rfl,rfl,rfl⟩:=hrel;by_cases g:k < m
  ·have D:(k:Int) < (m:Int):=oM;have s:=v.o k
   go_wp2_with (simp only [s])
   exact ⟨⟨k+1,by omega,by go_num,rfl,by trivial⟩,by simp [intOf];omega⟩
  ·obtain rfl:k=m:=oM;go_wp2;go_ret;exact ⟨rfl,by trivial⟩
theorem nA {P:Program} (w:World) (t e:TypeId) (a b c d v:Value) (h:P.underlying t=some (.array 4 e)) (r:(P.info? e).map (·.size)=some 1) (o:(isAgg e).run P w=.ok false w) (j:Nat) (l:j < 4) (y:#[a,b,c,d][j]?=some v):(Instr.index t (.agg #[a,b,c,d]) (.int .i64 j)).run P w=.ok v w:=by
 have m:(0≤(j:Int)∧(j:Int) < (4:Nat)):=oM;cases n:P.info? e with
 | none=>simp [n] at r
 | some i =>
 have f:i.size=1:=by simpa [n] using r
 have s:[a,b,c,d][j]?=some v:=by simpa using y
 simp [Instr.index,run_underlying h,asIntOf,m,go_sem,l,sizeOf,typeInfo,n,f,o];exact (List.getElem?_eq_some_iff.1 s).2
theorem mj {P:Program} (w:World) (t e:TypeId) (a b c d v:Value) (h:P.underlying t=some (.array 4 e)) (o:(P.info? e).map (·.size)=some 1) (i:P.underlying e=some (.complex .f64)) (j:Nat) (n:j < 4) (s:#[a,b,c,d][j]?=some v):(Instr.index t (.agg #[a,b,c,d]) (.int .i64 j)).run P w=.ok v w :=
 nA w t e a b c d v h o (by simp [isAgg,run_underlying i]) j n s
theorem kw (f:Nat → Fx.Wd):(c4 f).all (·.oneCell')=true:=by rw [← Array.all_toList];rfl
theorem iC (cs:Array Value) (k:Nat) (v:Value) (h:k < cs.size):(cs.setIfInBounds k v).toList=cs.toList.take k ++ [v] ++ cs.toList.drop (k+1):=by
 rw [Array.toList_setIfInBounds,List.set_eq_take_append_cons_drop,if_pos (by simpa using h)];simp
def dN (q:Fx.Wd) (f:Nat → Fx.Wd) (k j:Nat):Nat → Fx.Wd:=fun i=>if i < k then sumsW q f i else if i=k then sumW q f k j else (0,0)
theorem Ah (q:Fx.Wd) (f:Nat → Fx.Wd) (k j:Nat) (h:k < 4):(c4 (dN q f k j)).setIfInBounds k (cv (sumW q f k (j+1)))=c4 (dN q f k (j+1)):=by
 have:=yl (dN q f k j) (dN q f k (j+1)) k h (fun i _ hi=>by unfold dN;by_cases c:i < k <;> simp [c,hi]);rwa [show dN q f k (j+1) k=sumW q f k (j+1) by simp [dN]] at this
theorem xO (q:Fx.Wd) (f:Nat → Fx.Wd) (k:Nat):dN q f k 4=dN q f (k+1) 0:=by
 funext i
 unfold dN;by_cases c:i < k
 ·simp [c,show i < k+1 by omega]
 ·by_cases e:i=k
  ·subst e;simp [sumsW]
  ·by_cases t:i=k+1
   ·subst t;simp [c,e,sumW]
   ·simp [c,e,t,show ¬ i < k+1 by omega]
theorem Ag (q:Fx.Wd) (f:Nat → Fx.Wd):c4 (dN q f 4 0)=c4 (sumsW q f):=by unfold c4 dN;simp
theorem CJ (q:Fx.Wd) (f:Nat → Fx.Wd):c4 (dN q f 0 0)=#[.complex .f64 0 0,.complex .f64 0 0,.complex .f64 0 0,.complex .f64 0 0]:=by unfold c4 cv dN;simp [sumW]
theorem uA (f:Nat → Fx.Wd) (q:Fx.Wd) (z:Nat → Int × Int) (X:Int × Int) (B:Nat) (w:World) (V:∀ i,i < 4 → Cd (f i) (z i)) (U:Cd q X) (R:Quarter X) (W:∀ i,i < 4 → Cb (z i) B) (Z:B < 2 ^ 50) :
  Calls prog 263 #[.agg (c4 f),.complex .f64 q.1 q.2] w fun e w'=>e=.returned (.agg (c4 (sumsW q f)))∧Below w w w':=by
 have AD:=zH (fun k j D t w=>run_complex_sum (P:=prog) w .add (.inl rfl) t .f64 _ _ _ _ _ _ (sum_add U R V W Z k j D));have d:=zW w;obtain ⟨w1,w2,w3,H,I,Y,_,_,_,s,y,a,G⟩:=bk3 w #[.complex .f64 (f 0).1 (f 0).2,.complex .f64 (f 1).1 (f 1).2,.complex .f64 (f 2).1 (f 2).2,.complex .f64 (f 3).1 (f 3).2] 366 #[.complex .f64 0 0,.complex .f64 0 0,.complex .f64 0 0,.complex .f64 0 0] 366 #[.complex .f64 0 0,.complex .f64 0 0,.complex .f64 0 0,.complex .f64 0 0] 366;replace d:=zF G d;clear G;have TU:=zH (fun (j k:Nat) (D:j < 4) (hk:k < 4) w=>xS (f j) q (z j) X B ((j:Int)*(k:Int)) ((j*k) % 4) w (V j D) U R (W j D) oM);clear V U R W Z;unfold c4 cv;go_in;go_wp2_with fail;have l1:=zL H;have l2:=zL I;clear H I Y;replace s:=zH (show Blk w3 w.heap.size 366 (c4 f) from s.o);replace a:=zH (show Blk w3 w2.heap.size 366 (c4 (dN q f 0 0)) by rw [CJ];exact a.o);obtain ⟨g,N⟩:∃ n,w.heap.size=n:=⟨_,rfl⟩;obtain ⟨Q,J⟩:∃ n,w1.heap.size=n:=⟨_,rfl⟩;obtain ⟨x,O⟩:∃ n,w2.heap.size=n:=⟨_,rfl⟩;rw [N,J] at l1;rw [J,O] at l2;rw [N] at s;rw [J] at y;rw [O] at a;rw [N,J,O];go_loopw [9] (fun i wr=>∃ k:Nat,k≤4∧i=.int .i64 k∧Far w wr∧Blk wr g 366 (c4 f)∧Blk wr Q 366 #[.complex .f64 0 0,.complex .f64 0 0,.complex .f64 0 0,.complex .f64 0 0]∧Blk wr x 366 (c4 (dN q f k 0))) (fun i _=>4 - (intOf i).toNat)
 case atStart=>exact ⟨0,zl _,rfl,d.o,s.o,y.o,a.o⟩
 case round =>
  obtain ⟨k,hk,rfl,C,l,m,c⟩:=hrel;clear d s y a;obtain ⟨d,s,y,a⟩:=zh4 C l m c;clear C l m c;by_cases b:k < 4
  ·have p1:(k:Int) < 4:=oM;have c0:wr.cell? ⟨g,0,none⟩=some (.complex .f64 (f 0).1 (f 0).2):=s.o.cell 0;have c1:wr.cell? ⟨g,1,none⟩=some (.complex .f64 (f 1).1 (f 1).2):=s.o.cell 1;have c2:wr.cell? ⟨g,2,none⟩=some (.complex .f64 (f 2).1 (f 2).2):=s.o.cell 2;have c3:wr.cell? ⟨g,3,none⟩=some (.complex .f64 (f 3).1 (f 3).2):=s.o.cell 3;go_wp2;go_loopw [13] (fun i wr=>∃ j:Nat,j≤4∧i=.int .i64 j∧Far w wr∧Blk wr g 366 (c4 f)∧Blk wr Q 366 #[.complex .f64 0 0,.complex .f64 0 0,.complex .f64 0 0,.complex .f64 0 0]∧Blk wr x 366 (c4 (dN q f k j))) (fun i _=>4 - (intOf i).toNat)
   case atStart=>exact ⟨0,zl _,rfl,d.o,s.o,y.o,a.o⟩
   case round =>
    clear d s y a c0 c1 c2 c3;rename_i i ah;obtain ⟨j,D,rfl,C,l,m,c⟩:=hrel;obtain ⟨d,s,y,a⟩:=zh4 C l m c;clear C l m c;by_cases p:j < 4
    ·have p2:(j:Int) < 4:=oM;have T:(j:Int)*(k:Int)≤9:=by
      have:=Nat.mul_le_mul (show j≤3 by omega) (show k≤3 by omega)
      exact_mod_cast this
     have E:0≤(j:Int)*(k:Int):=by exact_mod_cast zl (j*k)
     have F:IntKind.i64.wrap ((j:Int)*(k:Int))=(j:Int)*(k:Int):=by rw [IntKind.wrap_i64];omega
     have TJ:=zH (fun w=>by have h:=TU.o j k p b w E T (by have:=Int.natCast_emod (j*k) 4;simp at this ⊢);rwa [← F] at h);clear F;have an:=AD.o k j p;have v:=kO f j p;unfold c4 cv at v;have S:=zH (fun w=>mj (P:=prog) w 366 365 _ _ _ _ _ underlying366 kM underlying365 j p v);clear v;have M:=a.o.cell k;rw [kO _ _ b,show dN q f k j k=sumW q f k j by simp [dN]] at M;unfold cv at M;have fk:=a.o.frozen k;have SS:=zH (Ah q f k j b)
     go_wp2_with (simp only [S.out])
     refine aP (fun w'=>w'.cell? ⟨x,k,none⟩=some (.complex .f64 (sumW q f k j).1 (sumW q f k j).2)∧w'=wr.drew) 10 kM ?_ (fun r=>?_)
     ·exact ⟨M,rfl⟩
     refine kT' 0 r ?_;refine kT' 1 r ?_;refine kT' 2 r ?_;refine kT' 3 r ?_;refine kT' 4 r ?_;refine kT' 5 r ?_;refine kT' 6 r ?_;refine kT' 7 r ?_;refine rT 8 (fun K hK=>?_);go_simp;refine (TJ.o _).mono ?_;rintro e w' ⟨rfl,rfl⟩;refine hK.out _ _ r (fun r=>?_);clear hK K;try simp only [pX]
     refine kT' 9 r ?_;refine wpAnyT_tail _ _ rfl rfl kM ?_;obtain ⟨-,-⟩:=r
     go_wp2_with (refine wpList_store_one rfl 365 (.tmp 27) (.tmp 26) rfl x k (.complex .f64 (sumW q f k (j+1)).1 (sumW q f k (j+1)).2) rfl rfl rfl rfl _ (c4 (dN q f k j)) (c4 (dN q f k (j+1))) a.o.draw (by simp [c4];omega) kM (by rw [← SS.o];exact iC _ _ _ (by simp [c4];omega)) ?_;intro w5 L A)
     exact ⟨⟨j+1,by omega,by go_num,d.o.draw.away A oM,s.o.draw.away A (.inl oM),y.o.draw.away A (.inl oM),L⟩,by simp [intOf];omega⟩
    ·obtain rfl:j=4:=oM;go_wp2;exact ⟨⟨k+1,by omega,by go_num,d.o,s.o,y.o,by rw [← xO];exact a.o⟩,by simp [intOf];omega⟩
  ·obtain rfl:k=4:=oM;have a:=zH (show Blk wr x 366 (c4 (sumsW q f)) by rw [← Ag];exact a.o)
   go_wp2_with (first|(refine wpList_load_blk rfl 366 (.tmp 5) rfl x 0 rfl _ (c4 (sumsW q f)) (c4 (sumsW q f)) _ a.o underlying366 rfl (by show _=some 4;kernel_rfl) rfl ?_)|(refine wpList_store_all rfl 366 (.tmp 4) (.tmp 30) rfl Q (c4 (sumsW q f)) rfl rfl _ _ y.o rfl (by show _=some 4;kernel_rfl) (kw _) ?_;intro w5 L A))
   refine eC rfl L rfl underlying366 (by show _=some 4;kernel_rfl) rfl ?_;exact ⟨rfl,by have:=d.o.away A oM;exact this.out⟩
def i4 (k:IntKind) (l:Nat → Int):Array Value:=#[.int k (l 0),.int k (l 1),.int k (l 2),.int k (l 3)]
theorem En (k:IntKind) (f:Nat → Int) (i:Nat) (h:i < 4):(i4 k f)[i]?=some (.int k (f i)):=by
 match i,h with
 | 0,_=>rfl
 | 1,_=>rfl
 | 2,_=>rfl
 | 3,_=>rfl
theorem yK (k:IntKind) (f:Nat → Int):(i4 k f).all (·.oneCell')=true:=by rw [← Array.all_toList];rfl
theorem DR (t:IntKind) (f g:Nat → Int) (k:Nat) (h:k < 4) (e:∀ i,i < 4 → i ≠ k → g i=f i):(i4 t f).setIfInBounds k (.int t (g k))=i4 t g:=by
 unfold i4
 match k,h with
 | 0,_=>rw [e 1 oM oM,e 2 oM oM,e 3 oM oM];rfl
 | 1,_=>rw [e 0 oM oM,e 2 oM oM,e 3 oM oM];rfl
 | 2,_=>rw [e 0 oM oM,e 1 oM oM,e 3 oM oM];rfl
 | 3,_=>rw [e 0 oM oM,e 1 oM oM,e 2 oM oM];rfl
def upW (f g:Nat → Fx.Wd) (k:Nat):Nat → Fx.Wd:=fun i=>if i < k then f i else g i
theorem qI (f g:Nat → Fx.Wd) (k:Nat) (h:k < 4):(c4 (upW f g k)).setIfInBounds k (cv (f k))=c4 (upW f g (k+1)):=by
 have:=yl (upW f g k) (upW f g (k+1)) k h (fun i _ hi=>by unfold upW;by_cases c:i < k <;> simp [c] <;> omega);rwa [show upW f g (k+1) k=f k by simp [upW]] at this
theorem qH (f g:Nat → Fx.Wd):c4 (upW f g 4)=c4 f:=by unfold c4 upW;simp
theorem oD (f g:Nat → Fx.Wd):upW f g 0=g:=by funext i;simp [upW]
theorem Al (f g:Nat → Fx.Wd) (k:Nat):upW f g k k=g k:=by simp [upW]
def upI (f g:Nat → Int) (k:Nat):Nat → Int:=fun i=>if i < k then f i else g i
theorem Dy (e:IntKind) (f g:Nat → Int) (k:Nat) (h:k < 4):(i4 e (upI f g k)).setIfInBounds k (.int e (f k))=i4 e (upI f g (k+1)):=by
 have:=DR e (upI f g k) (upI f g (k+1)) k h (fun i _ hi=>by unfold upI;by_cases c:i < k <;> simp [c] <;> omega);rwa [show upI f g (k+1) k=f k by simp [upI]] at this
theorem Dx (e:IntKind) (f g:Nat → Int):i4 e (upI f g 4)=i4 e f:=by unfold i4 upI;simp
theorem uF (f g:Nat → Int):upI f g 0=g:=by funext i;simp [upI]
theorem oT (l:Nat → Int) (B:Nat) (w:World) (A:∀ i,i < 4 → (l i).natAbs≤B) (j:B < 2 ^ 50) :
  Calls prog 257 #[.agg (i4 .i16 l)] w fun e w'=>e=.returned (.agg (c4 (ofW l)))∧Below w w w':=by
 have a:=zW w;obtain ⟨R,H,m,y,p,C,_,_,_,r,s,t,f⟩:=bk3 w #[.int .i16 (l 0),.int .i16 (l 1),.int .i16 (l 2),.int .i16 (l 3)] 370 #[.complex .f64 0 0,.complex .f64 0 0,.complex .f64 0 0,.complex .f64 0 0] 366 #[.complex .f64 0 0,.complex .f64 0 0,.complex .f64 0 0,.complex .f64 0 0] 366;replace a:=zF f a;clear f;have J:=zH (fun w=>uA (inW l) rightW (fun i=>(l i,0)) (0,-1) B w (fun i hi=>(in_ok A j i hi).1) cd_right (.inr rfl) (fun i hi=>(in_ok A j i hi).2) j);clear A j;have K:m.cell? ⟨w.heap.size,0,none⟩=some (.int .i16 (l 0)):=r.o.cell 0;have L:m.cell? ⟨w.heap.size,1,none⟩=some (.int .i16 (l 1)):=r.o.cell 1;have M:m.cell? ⟨w.heap.size,2,none⟩=some (.int .i16 (l 2)):=r.o.cell 2;have N:m.cell? ⟨w.heap.size,3,none⟩=some (.int .i16 (l 3)):=r.o.cell 3;unfold i4;go_in;go_wp2_with fail;have O:=zL y;have Q:=zL p;clear y p C K L M N;replace t:=zH (show Blk m H.heap.size 366 (c4 (upW (inW l) (fun _=>(0,0)) 0)) by rw [oD];exact t.o);obtain ⟨T,D⟩:∃ n,w.heap.size=n:=⟨_,rfl⟩;obtain ⟨E,v⟩:∃ n,R.heap.size=n:=⟨_,rfl⟩;obtain ⟨b,x⟩:∃ n,H.heap.size=n:=⟨_,rfl⟩;rw [D,v] at O;rw [v,x] at Q;rw [v] at s;rw [x] at t;rw [D,v,x];clear r;go_loopw [7] (fun i wr=>∃ k:Nat,k≤4∧i=.int .i64 k∧Far w wr∧Blk wr E 366 #[.complex .f64 0 0,.complex .f64 0 0,.complex .f64 0 0,.complex .f64 0 0]∧Blk wr b 366 (c4 (upW (inW l) (fun _=>(0,0)) k))) (fun i _=>4 - (intOf i).toNat)
 case atStart=>exact ⟨0,zl _,rfl,a.o,s.o,t.o⟩
 case round =>
  obtain ⟨k,U,rfl,G,c,d⟩:=hrel;clear a s t;obtain ⟨a,s,t⟩:=zh3 G c d;clear G c d;by_cases h:k < 4
  ·have V:(k:Int) < 4:=oM;obtain ⟨z,I⟩:=zh2 (fun w=>nA (P:=prog) w 370 353 _ _ _ _ _ underlying370 kM (by simp [isAgg,run_underlying underlying353]) k h (En .i16 l k h)) (qI (inW l) (fun _=>(0,0)) k h)
   go_wp2_with (first|simp only [z.out]|(refine wpList_store_one rfl 365 (.tmp 15) (.tmp 14) rfl b k (cv (inW l k)) rfl rfl rfl rfl _ (c4 (upW (inW l) (fun _=>(0,0)) k)) (c4 (upW (inW l) (fun _=>(0,0)) (k+1))) t.o (by simp [c4];omega) kM (by rw [← I.o];exact iC _ _ _ (by simp [c4];omega)) ?_;intro S q g))
   exact ⟨⟨k+1,by omega,by go_num,a.o.away g oM,s.o.away g (.inl oM),q⟩,by simp [intOf];omega⟩
  ·obtain rfl:k=4:=oM;have t:=zH (show Blk wr b 366 (c4 (inW l)) by rw [← qH (inW l) (fun _=>(0,0))];exact t.o)
   go_wp2_with (first|(refine wpList_load_blk rfl 366 (.tmp 3) rfl b 0 rfl _ (c4 (inW l)) (c4 (inW l)) _ t.o underlying366 rfl (by show _=some 4;kernel_rfl) rfl ?_))
   refine qM (J.o _) fun w4 F=>?_;obtain ⟨a,s⟩:=uz2 F a s;clear F
   go_wp2_with (first|(refine wpList_store_all rfl 366 (.tmp 2) (.tmp 18) rfl E (c4 (ofW l)) rfl rfl _ _ s.o rfl (by show _=some 4;kernel_rfl) (kw _) ?_;intro S q g))
   refine eC rfl q rfl underlying366 (by show _=some 4;kernel_rfl) rfl ?_;exact ⟨rfl,by have:=a.o.away g oM;exact this.out⟩
theorem rM (f g:Nat → Fx.Wd) (w:World) (I:∀ i,i < 4 → cMulBits (f i).1 (f i).2 (g i).1 (g i).2=some ((timesW f g i).1,(timesW f g i).2)) :
  Calls prog 256 #[.agg (c4 f),.agg (c4 g)] w fun e w'=>e=.returned (.agg (c4 (timesW f g)))∧Below w w w':=by
 have L:=zH (fun k H t w=>run_complex_mul (P:=prog) w t _ _ _ _ _ _ (I k H));have d:=zW w;obtain ⟨J,R,K,j,q,D,_,_,_,a,h,l,b⟩:=bk3 w #[.complex .f64 (f 0).1 (f 0).2,.complex .f64 (f 1).1 (f 1).2,.complex .f64 (f 2).1 (f 2).2,.complex .f64 (f 3).1 (f 3).2] 366 #[.complex .f64 (g 0).1 (g 0).2,.complex .f64 (g 1).1 (g 1).2,.complex .f64 (g 2).1 (g 2).2,.complex .f64 (g 3).1 (g 3).2] 366 #[.complex .f64 0 0,.complex .f64 0 0,.complex .f64 0 0,.complex .f64 0 0] 366;replace d:=zF b d;clear b;clear I;unfold c4 cv;go_in;go_wp2_with fail;have O:=zL j;have Q:=zL q;clear j q D;replace a:=zH (show Blk K w.heap.size 366 (c4 (upW (timesW f g) f 0)) by rw [oD];exact a.o);replace h:=zH (show Blk K J.heap.size 366 (c4 g) from h.o);obtain ⟨c,B⟩:∃ n,w.heap.size=n:=⟨_,rfl⟩;obtain ⟨E,z⟩:∃ n,J.heap.size=n:=⟨_,rfl⟩;obtain ⟨F,C⟩:∃ n,R.heap.size=n:=⟨_,rfl⟩;rw [B,z] at O;rw [z,C] at Q;rw [B] at a;rw [z] at h;rw [C] at l;rw [B,z,C];go_loopw [6] (fun i wr=>∃ k:Nat,k≤4∧i=.int .i64 k∧Far w wr∧Blk wr c 366 (c4 (upW (timesW f g) f k))∧Blk wr E 366 (c4 g)∧Blk wr F 366 #[.complex .f64 0 0,.complex .f64 0 0,.complex .f64 0 0,.complex .f64 0 0]) (fun i _=>4 - (intOf i).toNat)
 case atStart=>exact ⟨0,zl _,rfl,d.o,a.o,h.o,l.o⟩
 case round =>
  obtain ⟨k,H,rfl,G,y,p,v⟩:=hrel;clear d a h l;obtain ⟨d,a,h,l⟩:=zh4 G y p v;clear G y p v;by_cases s:k < 4
  ·have T:(k:Int) < 4:=oM;have N:=L.o k s;have x:=a.o.draw.cell k;rw [kO _ _ s,Al] at x;have cb:=h.o.draw.cell k;rw [kO _ _ s] at cb;unfold cv at x cb;have M:=zH (qI (timesW f g) f k s);go_wp2_with fail;refine aP (fun w'=>w'.cell? ⟨c,k,none⟩=some (.complex .f64 (f k).1 (f k).2)∧w'.cell? ⟨E,k,none⟩=some (.complex .f64 (g k).1 (g k).2)∧w'=wr.drew) 7 kM ?_ (fun r=>?_)
   ·exact ⟨x,cb,rfl⟩
   refine kT' 0 r ?_;refine kT' 1 r ?_;refine kT' 2 r ?_;refine kT' 3 r ?_;refine kT' 4 r ?_;refine kT' 5 r ?_;refine kT' 6 r ?_;refine wpAnyT_tail _ _ rfl rfl kM ?_;clear r x cb
   go_wp2_with (refine wpList_store_one rfl 365 (.tmp 16) (.tmp 15) rfl c k (cv (timesW f g k)) rfl rfl rfl rfl _ (c4 (upW (timesW f g) f k)) (c4 (upW (timesW f g) f (k+1))) a.o.draw (by simp [c4];omega) kM (by rw [← M.o];exact iC _ _ _ (by simp [c4];omega)) ?_;intro S A m)
   exact ⟨⟨k+1,by omega,by go_num,d.o.draw.away m oM,A,h.o.draw.away m (.inr oM),l.o.draw.away m (.inr oM)⟩,by simp [intOf];omega⟩
  ·obtain rfl:k=4:=oM;have a:=zH (show Blk wr c 366 (c4 (timesW f g)) by rw [← qH (timesW f g) f];exact a.o)
   go_wp2_with (first|(refine wpList_load_blk rfl 366 (.tmp 2) rfl c 0 rfl _ (c4 (timesW f g)) (c4 (timesW f g)) _ a.o underlying366 rfl (by show _=some 4;kernel_rfl) rfl ?_)|(refine wpList_store_all rfl 366 (.tmp 4) (.tmp 18) rfl F (c4 (timesW f g)) rfl rfl _ _ l.o rfl (by show _=some 4;kernel_rfl) (kw _) ?_;intro S A m))
   refine eC rfl A rfl underlying366 (by show _=some 4;kernel_rfl) rfl ?_;exact ⟨rfl,by have:=d.o.away m oM;exact this.out⟩
theorem tE (f g:Nat → Fx.Wd) (w:World) (I:∀ i,i < 4 → cSumBits .add .f64 (f i).1 (f i).2 (g i).1 (g i).2=some ((plusW f g i).1,(plusW f g i).2)) :
  Calls prog 255 #[.agg (c4 f),.agg (c4 g)] w fun e w'=>e=.returned (.agg (c4 (plusW f g)))∧Below w w w':=by
 have L:=zH (fun k H t w=>run_complex_sum (P:=prog) w .add (.inl rfl) t .f64 _ _ _ _ _ _ (I k H));have d:=zW w;obtain ⟨J,R,K,j,q,D,_,_,_,a,h,l,b⟩:=bk3 w #[.complex .f64 (f 0).1 (f 0).2,.complex .f64 (f 1).1 (f 1).2,.complex .f64 (f 2).1 (f 2).2,.complex .f64 (f 3).1 (f 3).2] 366 #[.complex .f64 (g 0).1 (g 0).2,.complex .f64 (g 1).1 (g 1).2,.complex .f64 (g 2).1 (g 2).2,.complex .f64 (g 3).1 (g 3).2] 366 #[.complex .f64 0 0,.complex .f64 0 0,.complex .f64 0 0,.complex .f64 0 0] 366;replace d:=zF b d;clear b;clear I;unfold c4 cv;go_in;go_wp2_with fail;have O:=zL j;have Q:=zL q;clear j q D;replace a:=zH (show Blk K w.heap.size 366 (c4 (upW (plusW f g) f 0)) by rw [oD];exact a.o);replace h:=zH (show Blk K J.heap.size 366 (c4 g) from h.o);obtain ⟨c,B⟩:∃ n,w.heap.size=n:=⟨_,rfl⟩;obtain ⟨E,z⟩:∃ n,J.heap.size=n:=⟨_,rfl⟩;obtain ⟨F,C⟩:∃ n,R.heap.size=n:=⟨_,rfl⟩;rw [B,z] at O;rw [z,C] at Q;rw [B] at a;rw [z] at h;rw [C] at l;rw [B,z,C];go_loopw [6] (fun i wr=>∃ k:Nat,k≤4∧i=.int .i64 k∧Far w wr∧Blk wr c 366 (c4 (upW (plusW f g) f k))∧Blk wr E 366 (c4 g)∧Blk wr F 366 #[.complex .f64 0 0,.complex .f64 0 0,.complex .f64 0 0,.complex .f64 0 0]) (fun i _=>4 - (intOf i).toNat)
 case atStart=>exact ⟨0,zl _,rfl,d.o,a.o,h.o,l.o⟩
 case round =>
  obtain ⟨k,H,rfl,G,y,p,v⟩:=hrel;clear d a h l;obtain ⟨d,a,h,l⟩:=zh4 G y p v;clear G y p v;by_cases s:k < 4
  ·have T:(k:Int) < 4:=oM;have N:=L.o k s;have x:=a.o.draw.cell k;rw [kO _ _ s,Al] at x;have cb:=h.o.draw.cell k;rw [kO _ _ s] at cb;unfold cv at x cb;have M:=zH (qI (plusW f g) f k s);go_wp2_with fail;refine aP (fun w'=>w'.cell? ⟨c,k,none⟩=some (.complex .f64 (f k).1 (f k).2)∧w'.cell? ⟨E,k,none⟩=some (.complex .f64 (g k).1 (g k).2)∧w'=wr.drew) 7 kM ?_ (fun r=>?_)
   ·exact ⟨x,cb,rfl⟩
   refine kT' 0 r ?_;refine kT' 1 r ?_;refine kT' 2 r ?_;refine kT' 3 r ?_;refine kT' 4 r ?_;refine kT' 5 r ?_;refine kT' 6 r ?_;refine wpAnyT_tail _ _ rfl rfl kM ?_;clear r x cb
   go_wp2_with (refine wpList_store_one rfl 365 (.tmp 16) (.tmp 15) rfl c k (cv (plusW f g k)) rfl rfl rfl rfl _ (c4 (upW (plusW f g) f k)) (c4 (upW (plusW f g) f (k+1))) a.o.draw (by simp [c4];omega) kM (by rw [← M.o];exact iC _ _ _ (by simp [c4];omega)) ?_;intro S A m)
   exact ⟨⟨k+1,by omega,by go_num,d.o.draw.away m oM,A,h.o.draw.away m (.inr oM),l.o.draw.away m (.inr oM)⟩,by simp [intOf];omega⟩
  ·obtain rfl:k=4:=oM;have a:=zH (show Blk wr c 366 (c4 (plusW f g)) by rw [← qH (plusW f g) f];exact a.o)
   go_wp2_with (first|(refine wpList_load_blk rfl 366 (.tmp 2) rfl c 0 rfl _ (c4 (plusW f g)) (c4 (plusW f g)) _ a.o underlying366 rfl (by show _=some 4;kernel_rfl) rfl ?_)|(refine wpList_store_all rfl 366 (.tmp 4) (.tmp 18) rfl F (c4 (plusW f g)) rfl rfl _ _ l.o rfl (by show _=some 4;kernel_rfl) (kw _) ?_;intro S A m))
   refine eC rfl A rfl underlying366 (by show _=some 4;kernel_rfl) rfl ?_;exact ⟨rfl,by have:=d.o.away m oM;exact this.out⟩
def cZ (z:Nat → Int × Int):Nat → Int:=fun i=>(sumsZ (0,1) z i).1.tdiv 4
theorem tD (f:Nat → Fx.Wd) (z:Nat → Int × Int) (B:Nat) (w:World) (F:∀ i,i < 4 → Cd (f i) (z i)) (G:∀ i,i < 4 → Cb (z i) B) (L:B < 2 ^ 50) :
  Calls prog 264 #[.agg (c4 f)] w fun e w'=>e=.returned (.agg (i4 .i64 (cZ z)))∧Below w w w':=by
 have a:=zW w;obtain ⟨w1,R,q,p,v,I,_,_,_,l,s,t,y⟩:=bk3 w #[.complex .f64 (f 0).1 (f 0).2,.complex .f64 (f 1).1 (f 1).2,.complex .f64 (f 2).1 (f 2).2,.complex .f64 (f 3).1 (f 3).2] 366 #[.int .i64 0,.int .i64 0,.int .i64 0,.int .i64 0] 380 #[.int .i64 0,.int .i64 0,.int .i64 0,.int .i64 0] 380;replace a:=zF y a;clear y;obtain ⟨V,T⟩:=zh2 (fun w=>uA f leftW z (0,1) B w F cd_left (.inl rfl) G L) (fun k=>sums_ok cd_left (.inl rfl) F G L k);clear F G;have W:q.cell? ⟨w.heap.size,0,none⟩=some (.complex .f64 (f 0).1 (f 0).2):=l.o.cell 0;have X:q.cell? ⟨w.heap.size,1,none⟩=some (.complex .f64 (f 1).1 (f 1).2):=l.o.cell 1;have Y:q.cell? ⟨w.heap.size,2,none⟩=some (.complex .f64 (f 2).1 (f 2).2):=l.o.cell 2;have Z:q.cell? ⟨w.heap.size,3,none⟩=some (.complex .f64 (f 3).1 (f 3).2):=l.o.cell 3;unfold c4 cv;go_in;go_wp2_with fail;refine qM (V.o _) fun w4 M=>?_;have l1:=zL p;have l2:=zL v;clear p v I W X Y Z;obtain ⟨a,s,t⟩:=uz3 M a s t;clear M;replace t:=zH (show Blk w4 R.heap.size 380 (i4 .i64 (upI (cZ z) (fun _=>0) 0)) by rw [uF];exact t.o);obtain ⟨g0,J⟩:∃ n,w.heap.size=n:=⟨_,rfl⟩;obtain ⟨K,b⟩:∃ n,w1.heap.size=n:=⟨_,rfl⟩;obtain ⟨g,C⟩:∃ n,R.heap.size=n:=⟨_,rfl⟩;rw [J,b] at l1;rw [b,C] at l2;rw [b] at s;rw [C] at t;rw [J,b,C];clear l;unfold c4 cv;go_wp2;go_loopw [8] (fun i wr=>∃ k:Nat,k≤4∧i=.int .i64 k∧Far w wr∧Blk wr K 380 #[.int .i64 0,.int .i64 0,.int .i64 0,.int .i64 0]∧Blk wr g 380 (i4 .i64 (upI (cZ z) (fun _=>0) k))) (fun i _=>4 - (intOf i).toNat)
 case atStart=>exact ⟨0,zl _,rfl,a.o,s.o,t.o⟩
 case round =>
  obtain ⟨k,hk,rfl,N,m,c⟩:=hrel;clear a s t;obtain ⟨a,s,t⟩:=zh3 N m c;clear N m c;by_cases r:k < 4
  ·have p1:(k:Int) < 4:=oM;have h:=kO (sumsW leftW f) k r;unfold c4 cv at h;have E:=zH (fun w=>mj (P:=prog) w 366 365 _ _ _ _ _ underlying366 kM underlying365 k r h);clear h;obtain ⟨O,Q⟩:=T.o k;obtain ⟨re,d⟩:∃ x,(sumsZ (0,1) z k).1=x:=⟨_,rfl⟩;have H:=O.1;have q4:=Q.1;rw [d] at H q4;have D:cZ z k=re.tdiv 4:=by unfold cZ;rw [d]
   obtain ⟨S,U⟩:=zh2 (fun w=>run_convert_float_int (P:=prog) w 378 2 .f64 .i64 _ _ (by rw [underlying378];rfl) underlying2 (H.int oM oM)) (Dy .i64 (cZ z) (fun _=>0) k r);clear O Q H d
   go_wp2_with (first|simp only [E.out]|simp only [S.o]|(refine wpList_store_one rfl 2 (.tmp 17) (.tmp 16) rfl g k (.int .i64 (cZ z k)) rfl (by rw [D];rfl) rfl rfl _ (i4 .i64 (upI (cZ z) (fun _=>0) k)) (i4 .i64 (upI (cZ z) (fun _=>0) (k+1))) t.o (by simp [i4];omega) kM (by rw [← U.o];exact iC _ _ _ (by simp [i4];omega)) ?_;intro w5 A j))
   exact ⟨⟨k+1,by omega,by go_num,a.o.away j oM,s.o.away j (.inl oM),A⟩,by simp [intOf];omega⟩
  ·obtain rfl:k=4:=oM;have t:=zH (show Blk wr g 380 (i4 .i64 (cZ z)) by rw [← Dx .i64 (cZ z) (fun _=>0)];exact t.o)
   go_wp2_with (first|(refine wpList_load_blk rfl 380 (.tmp 3) rfl g 0 rfl _ (i4 .i64 (cZ z)) (i4 .i64 (cZ z)) _ t.o underlying380 rfl (by show _=some 4;kernel_rfl) rfl ?_)|(refine wpList_store_all rfl 380 (.tmp 2) (.tmp 19) rfl K (i4 .i64 (cZ z)) rfl rfl _ _ s.o rfl (by show _=some 4;kernel_rfl) (yK _ _) ?_;intro w5 A j))
   refine eC rfl A rfl underlying380 (by show _=some 4;kernel_rfl) rfl ?_;exact ⟨rfl,by have:=a.o.away j oM;exact this.out⟩
def w3Z (a b c:Int):Nat → Int:=fun i=>match i with|0=>c|1=>b|2=>a|_=>0
theorem pL (a b c:Int) (w:World) (l:InK .i8 a) (n:InK .i8 b) (m:InK .i8 c) :
  Calls prog 253 #[.agg #[.int .i8 a,.int .i8 b,.int .i8 c]] w fun e w'=>e=.returned (.agg (c4 (ofW (w3Z a b c))))∧Below w w w':=by
 have t:=zW w;obtain ⟨q,F,h,d,_,_,y,r,s⟩:=bk2 w #[.int .i8 a,.int .i8 b,.int .i8 c] 345 #[.complex .f64 0 0,.complex .f64 0 0,.complex .f64 0 0,.complex .f64 0 0] 366;replace t:=zF s t;clear s;rw [bj] at l n m;obtain ⟨x,z⟩:=l;obtain ⟨A,B⟩:=n;obtain ⟨C,D⟩:=m;have p:=zH (fun w=>oT (w3Z a b c) 128 w (fun i hi=>by unfold w3Z;split <;> omega) dM);obtain ⟨v,g,k⟩:=uc3 y 0 1 2;go_in;go_wp2_with fail;refine qM (p.o _) fun w4 n=>?_;have E:=zL h;clear h d v g k;obtain ⟨t,r⟩:=uz2 n t r;clear n
 go_wp2_with (first|(refine wpList_store_all rfl 366 (.tmp 2) (.tmp 13) rfl q.heap.size (c4 (ofW (w3Z a b c))) rfl rfl _ _ r.o rfl (by show _=some 4;kernel_rfl) (kw _) ?_;intro G f j))
 refine eC rfl f rfl underlying366 (by show _=some 4;kernel_rfl) rfl ?_;exact ⟨rfl,by have:=t.o.away j oM;exact this.out⟩
theorem st (f:Nat → Fx.Wd) (z:Nat → Int × Int) (B:Nat) (w:World) (m:∀ i,i < 4 → Cd (f i) (z i)) (y:∀ i,i < 4 → Cb (z i) B) (c:B < 2 ^ 50) :
  Calls prog 259 #[.agg (c4 f)] w fun e w'=>e=.returned (.agg #[.int .i64 (cZ z 2),.int .i64 (cZ z 3)])∧Below w w w':=by
 have t:=zW w;obtain ⟨D,r,n,s,_,_,h,d,a⟩:=bk2 w #[.complex .f64 (f 0).1 (f 0).2,.complex .f64 (f 1).1 (f 1).2,.complex .f64 (f 2).1 (f 2).2,.complex .f64 (f 3).1 (f 3).2] 366 #[.int .i64 0,.int .i64 0] 372;replace t:=zF a t;clear a;have v:=zH (fun w=>tD f z B w m y c);clear m y c;have b:r.cell? ⟨w.heap.size,0,none⟩=some (.complex .f64 (f 0).1 (f 0).2):=h.o.cell 0;have g:r.cell? ⟨w.heap.size,1,none⟩=some (.complex .f64 (f 1).1 (f 1).2):=h.o.cell 1;have k:r.cell? ⟨w.heap.size,2,none⟩=some (.complex .f64 (f 2).1 (f 2).2):=h.o.cell 2;have q:r.cell? ⟨w.heap.size,3,none⟩=some (.complex .f64 (f 3).1 (f 3).2):=h.o.cell 3;unfold c4 cv;go_in;go_wp2_with fail;refine qM (v.o _) fun w4 l=>?_;have E:=zL n;have F:=zL s;have G:=l.size;clear n s b g k q;obtain ⟨t,d⟩:=uz2 l t d;clear l;unfold i4
 go_wp2_with (refine wpList_store_all rfl 372 (.tmp 2) (.tmp 10) rfl D.heap.size #[.int .i64 (cZ z 2),.int .i64 (cZ z 3)] rfl rfl _ _ (d.o.past _) rfl kM (by rw [← Array.all_toList];rfl) ?_;intro H p x)
 refine eC rfl p rfl underlying372 kM rfl ?_;refine ⟨rfl,?_⟩;have A:Below w w (w4.alloc (.cells #[.int .i64 (cZ z 0),.int .i64 (cZ z 1),.int .i64 (cZ z 2),.int .i64 (cZ z 3)] 380)):=t.u.alloc oM _;exact A.grown x (by simp;omega) (fun j C=>by have:=sI C;omega)
def gL (n:Int):Int:=if n < 3 then 0 else (n - 1) / 2
theorem pJ (n:Int) (w:World) (a:0≤n) (o:n≤140737488355328) :
  Calls prog 254 #[.int .i64 n] w fun e w'=>e=.returned (.int .i64 (gL n))∧w'=w:=by
 by_cases c:n < 3
 ·have t:gL n=0:=if_pos c;rw [t];go_in;go_wp2;go_ret;exact ⟨rfl,rfl⟩
 ·have t:gL n=(n - 2+1) / 2:=by unfold gL;rw [if_neg c];omega
  rw [t];go_in;go_wp2;go_ret;exact ⟨rfl,rfl⟩
def at4 (l:List Int) (p:Nat):Nat → Int:=fun j=>l.getD (p+j) 0
theorem wt (l:List Int) (p:Nat):splice [Value.int .i16 0,.int .i16 0,.int .i16 0,.int .i16 0] 0 (((l.drop p).take 4).map (Value.int .i16))=(i4 .i16 (at4 l p)).toList:=by
 have h:∀ j,at4 l p j=(l.drop p).getD j 0:=fun j=>by simp [at4,gD,List.getElem?_drop]
 unfold i4;rw [h,h,h,h];generalize l.drop p=m
 match m with
 | []=>rfl
 | [a]=>rfl
 | [a,b]=>rfl
 | [a,b,c]=>rfl
 | a :: b :: c :: d :: r=>simp [splice]
theorem vM (A:QA) (n t:Nat) (l:List Int) (p:Nat) (w:World) (f:Sl (ab .i16) w (blo w) A n t l) (hp:p < n) :
  Calls prog 258 #[.slice A n t,.int .i64 p] w fun e w'=>e=.returned (.agg (i4 .i16 (at4 l p)))∧Below w w w':=by
 obtain ⟨b,off,rfl,Y,Z,-,-⟩:=f.int_at p hp;have O:=f.cap_le;have P:=f.max_le;have an:maxLen≤9223372036854775807:=by decide
 have k:=zW w;have L:=zH (Old.now f);obtain ⟨y,R,E,F,l1,_,H,G,g⟩:=bk2 w #[.int .i16 0,.int .i16 0,.int .i16 0,.int .i16 0] 370 #[.int .i16 0,.int .i16 0,.int .i16 0,.int .i16 0] 370;obtain ⟨k,L⟩:=uz2 g k L;clear g;clear f;have p1:(p:Int)≤n:=oM;have p2:(n:Int)≤t:=oM;have p3:(t:Int)≤9223372036854775807:=oM;go_in;go_wp2_with fail;clear E F;obtain ⟨cs,s⟩:∃ cs,((l.drop p).take 4).map (Value.int .i16)=cs:=⟨_,rfl⟩;have C:=L.o.out.n_eq;have a:cs.length=Nat.min (n - p) 4:=by rw [← s,List.length_map,List.length_take,List.length_drop,C];exact Nat.min_comm _ _
 have d:cs.length≤4:=by rw [a];exact Nat.min_le_right _ _
 have m:=zH (show ∀ j v,cs[j]?=some v → R.drew.cell? ((⟨b,off+p,none⟩:Addr).add j)=some v from by
  intro j v i;have q:j < cs.length:=(List.getElem?_eq_some_iff.1 i).1;have B:p+j < n:=by rw [a] at q;have:=Nat.min_le_left (n - p) 4;have:j < n - p:=Nat.lt_of_lt_of_le q this;omega
  obtain ⟨b',Q,M,-,-,hc,-⟩:=L.o.draw.out.int_at (p+j) B;simp only [Option.some.injEq,Addr.mk.injEq,and_true] at M;obtain ⟨rfl,rfl⟩:=M;have W:(⟨b,off+p,none⟩:Addr).add j=⟨b,off+(p+j),none⟩:=by unfold Addr.add;split <;> simp_all <;> omega
  rw [W,hc];rw [← s,List.getElem?_map,List.getElem?_take] at i;split at i
  ·rw [List.getElem?_drop] at i;cases D:l[p+j]? with
   | none=>rw [D] at i;cases i
   | some x=>rw [D] at i;rw [gD,D];exact i
  ·cases i)
 refine wp_region_held_drew (S:=fun w'=>True) kM ?_ (fun c=>?_)
 ·exact trivial
 refine kH' 0 c ?_;refine kH' 1 c ?_;refine kH' 2 c ?_;refine kH' 3 c ?_;refine rH 4 rfl (fun K N=>?_);refine step_copy_splice rfl (.tmp 6) (.tmp 9) 320 320 rfl 353 (by rw [underlying320]) kM (some ⟨y.heap.size,0,none⟩) (some ⟨b,off+p,none⟩) 4 4 (n - p) (t - p) rfl (by show Value.slice (if t=p then _ else _) (n - p) (t - p)=_;rw [if_neg oM]) y.heap.size 0 [.int .i16 0,.int .i16 0,.int .i16 0,.int .i16 0] 370 G.o.draw.heap cs a (fun _=>⟨rfl,_,rfl,m.o⟩) (by simp;omega) (by intro v i;rw [← s,List.mem_map] at i;obtain ⟨x,-,rfl⟩:=i;rfl) y.heap.size R.drew (qB _ _) (lR _) ?_;intro T J r;refine N.out _ _ trivial (fun c=>?_);clear N K;try simp only [pX]
 refine wpAnyH_done kM ?_ _;have U:Blk T y.heap.size 370 (i4 .i16 (at4 l p)):=⟨by have h:=J.o;rw [← s,wt] at h;simpa using h⟩;have z:=H.o.draw.below r l1;have I:Below w w T:=k.o.draw.out.trans (r.mono oM);clear c J r G H k L m s a d
 go_wp2_with (first|(refine wpList_load_blk rfl 370 (.tmp 5) rfl y.heap.size 0 rfl _ (i4 .i16 (at4 l p)) (i4 .i16 (at4 l p)) _ U underlying370 rfl (by show _=some 4;kernel_rfl) rfl ?_)|(refine wpList_store_all rfl 370 (.tmp 4) (.tmp 11) rfl w.heap.size (i4 .i16 (at4 l p)) rfl rfl _ _ z rfl (by show _=some 4;kernel_rfl) (yK _ _) ?_;intro w6 V X))
 refine eC rfl V rfl underlying370 (by show _=some 4;kernel_rfl) rfl ?_;exact ⟨rfl,I.grown X I.size (fun j q=>by have:=sI q;omega)⟩
abbrev W3:=Int × Int × Int
def t3 (v:W3):Nat → Int:=w3Z v.1 v.2.1 v.2.2
def gR (xs:List (List Int)) (ws:List W3) (p:Nat):Nat → Nat → Fx.Wd
 | 0=>fun _=>(0,0)
 | k+1=>plusW (gR xs ws p k) (timesW (ofW (at4 (xs.getD k []) p)) (ofW (t3 (ws.getD k (0,0,0)))))
def gS (xs:List (List Int)) (ws:List W3) (p:Nat):Nat → Nat → Int × Int
 | 0=>fun _=>(0,0)
 | k+1=>fun i=>cadd (gS xs ws p k i) (crossZ (at4 (xs.getD k []) p) (t3 (ws.getD k (0,0,0))) i)
def eI (xs:List (List Int)) (ws:List W3) (p:Nat):Nat → Int
 | 0=>0
 | k+1=>eI xs ws p k+((xs.getD k []).getD p 0*(ws.getD k (0,0,0)).1+(xs.getD k []).getD (p+1) 0*(ws.getD k (0,0,0)).2.1+(xs.getD k []).getD (p+2) 0*(ws.getD k (0,0,0)).2.2)
def In3 (v:W3):Prop:=InK .i8 v.1∧InK .i8 v.2.1∧InK .i8 v.2.2
structure fX (xs:List (List Int)) (ws:List W3):Prop where
 row:∀ k i,InK .i16 ((xs.getD k []).getD i 0)
 tap:∀ k,In3 (ws.getD k (0,0,0))
theorem fX.at4 {xs:List (List Int)} {e:List W3} (h:fX xs e) (k p:Nat):∀ i,i < 4 → (Go.Proofs.YtbecbfpoahhpnaaGreat.at4 (xs.getD k []) p i).natAbs≤32768:=fun i _=>by
 have:=h.row k (p+i);rw [mH] at this;unfold Go.Proofs.YtbecbfpoahhpnaaGreat.at4;omega
theorem fX.t3 {xs:List (List Int)} {e:List W3} (h:fX xs e) (k:Nat):∀ i,i < 4 → (Go.Proofs.YtbecbfpoahhpnaaGreat.t3 (e.getD k (0,0,0)) i).natAbs≤128:=fun i _=>by
 obtain ⟨t,a,o⟩:=h.tap k;rw [bj] at t a o;unfold Go.Proofs.YtbecbfpoahhpnaaGreat.t3 w3Z;split <;> omega
theorem nR {xs:List (List Int)} {e:List W3} (h:fX xs e) (p k i:Nat) :
  cMulBits (ofW (at4 (xs.getD k []) p) i).1 (ofW (at4 (xs.getD k []) p) i).2 (ofW (t3 (e.getD k (0,0,0))) i).1 (ofW (t3 (e.getD k (0,0,0))) i).2
   = some ((timesW (ofW (at4 (xs.getD k []) p)) (ofW (t3 (e.getD k (0,0,0)))) i).1,(timesW (ofW (at4 (xs.getD k []) p)) (ofW (t3 (e.getD k (0,0,0)))) i).2)
  ∧ Cd (timesW (ofW (at4 (xs.getD k []) p)) (ofW (t3 (e.getD k (0,0,0)))) i) (crossZ (at4 (xs.getD k []) p) (t3 (e.getD k (0,0,0))) i)
  ∧ Cb (crossZ (at4 (xs.getD k []) p) (t3 (e.getD k (0,0,0))) i) 134217728:=by
 obtain ⟨o,t⟩:=of_ok (h.at4 k p) dM i;obtain ⟨n,a⟩:=of_ok (h.t3 k) dM i;obtain ⟨s,r⟩:=mulW_ok o n t a dM;exact ⟨s,r,(t.cmul a).le dM⟩
theorem sV {xs:List (List Int)} {e:List W3} (h:fX xs e) (p:Nat):∀ k,k≤1024 → ∀ i,Cd (gR xs e p k i) (gS xs e p k i)∧Cb (gS xs e p k i) (k*134217728)
 | 0,_,i=>⟨cd_zero,by simp [gS],by simp [gS]⟩
 | k+1,hk,i=>by
  obtain ⟨a,o⟩:=sV h p k oM i;obtain ⟨-,n,s⟩:=nR h p k i;have t:=o.cadd s;refine ⟨(addW_ok a n (t.le oM)).2,?_⟩;exact t.le oM
theorem CD {xs:List (List Int)} {e:List W3} (h:fX xs e) (p k:Nat) (s:k < 1024) (i:Nat) :
  cSumBits .add .f64 (gR xs e p k i).1 (gR xs e p k i).2 (timesW (ofW (at4 (xs.getD k []) p)) (ofW (t3 (e.getD k (0,0,0)))) i).1 (timesW (ofW (at4 (xs.getD k []) p)) (ofW (t3 (e.getD k (0,0,0)))) i).2
   = some ((plusW (gR xs e p k) (timesW (ofW (at4 (xs.getD k []) p)) (ofW (t3 (e.getD k (0,0,0))))) i).1,(plusW (gR xs e p k) (timesW (ofW (at4 (xs.getD k []) p)) (ofW (t3 (e.getD k (0,0,0))))) i).2):=by
 obtain ⟨t,a⟩:=sV h p k oM i;obtain ⟨-,o,n⟩:=nR h p k i;exact (addW_ok t o ((a.cadd n).le oM)).1
theorem AA (a b q:Int × Int):cmul (cadd a b) q=cadd (cmul a q) (cmul b q):=by
 unfold cmul cadd;simp only [Prod.mk.injEq];constructor <;> grind
theorem rB (q a b:Int × Int):∀ n,turnZ q (cadd a b) n=cadd (turnZ q a n) (turnZ q b n)
 | 0=>rfl
 | n+1=>by
  show cmul (turnZ q (cadd a b) n) q=_;rw [rB q a b n,AA];rfl
theorem wB (a b c d:Int × Int):cadd (cadd a b) (cadd c d)=cadd (cadd a c) (cadd b d):=by
 unfold cadd;simp only [Prod.mk.injEq];constructor <;> omega
theorem oB (q:Int × Int) (f g:Nat → Int × Int) (k:Nat):∀ j,sumZ q (fun i=>cadd (f i) (g i)) k j=cadd (sumZ q f k j) (sumZ q g k j)
 | 0=>rfl
 | j+1=>by
  show cadd (sumZ q (fun i=>cadd (f i) (g i)) k j) (turnZ q (cadd (f j) (g j)) ((j*k) % 4))=_;rw [oB q f g k j,rB,wB];rfl
theorem rx (q:Int × Int) (k:Nat) (h:Quarter q):sumsZ q (fun _=>(0,0)) k=(0,0):=by
 have t:∀ n,turnZ q (0,0) n=(0,0):=by
  intro n
  induction n with
  | zero=>rfl
  | succ n ih=>show cmul (turnZ q (0,0) n) q=_;rw [ih];unfold cmul;simp
 have e:∀ j,sumZ q (fun _=>(0,0)) k j=(0,0):=by
  intro j
  induction j with
  | zero=>rfl
  | succ j ih=>show cadd (sumZ q (fun _=>(0,0)) k j) (turnZ q (0,0) _)=_;rw [ih,t];rfl
 exact e 4
theorem sZ (xs:List (List Int)) (e:List W3) (p:Nat):∀ k,(sumsZ (0,1) (gS xs e p k) 2).1=4*eI xs e p k∧(sumsZ (0,1) (gS xs e p k) 3).1=4*eI xs e (p+1) k
 | 0=>by
  have t:=rx (0,1) 2 (.inl rfl);have a:=rx (0,1) 3 (.inl rfl);constructor
  ·show (sumsZ (0,1) (fun _=>(0,0)) 2).1=_;rw [t];rfl
  ·show (sumsZ (0,1) (fun _=>(0,0)) 3).1=_;rw [a];rfl
 | k+1=>by
  obtain ⟨o,t⟩:=sZ xs e p k;obtain ⟨a,n⟩:=back_cross (at4 (xs.getD k []) p) (t3 (e.getD k (0,0,0)));constructor
  ·show (sumZ (0,1) (fun i=>cadd (gS xs e p k i) (crossZ (at4 (xs.getD k []) p) (t3 (e.getD k (0,0,0))) i)) 2 4).1=_;rw [oB];show (sumsZ (0,1) (gS xs e p k) 2).1+(sumsZ (0,1) (crossZ (at4 (xs.getD k []) p) (t3 (e.getD k (0,0,0)))) 2).1=_;rw [o,a];simp only [eI,at4,t3,w3Z,Nat.add_zero];omega
  ·show (sumZ (0,1) (fun i=>cadd (gS xs e p k i) (crossZ (at4 (xs.getD k []) p) (t3 (e.getD k (0,0,0))) i)) 3 4).1=_;rw [oB];show (sumsZ (0,1) (gS xs e p k) 3).1+(sumsZ (0,1) (crossZ (at4 (xs.getD k []) p) (t3 (e.getD k (0,0,0)))) 3).1=_;rw [t,n];simp only [eI,at4,t3,w3Z,Nat.add_assoc,Nat.reduceAdd];omega
theorem yj (xs:List (List Int)) (e:List W3) (p k:Nat):cZ (gS xs e p k) 2=eI xs e p k∧cZ (gS xs e p k) 3=eI xs e (p+1) k:=by
 obtain ⟨t,a⟩:=sZ xs e p k;unfold cZ;rw [t,a];exact ⟨Int.mul_tdiv_cancel_left _ dM,Int.mul_tdiv_cancel_left _ dM⟩
theorem Sl.row_at {α:Type} {t:Ty α} {w:World} {S:Nat → Prop} {X:QA} {n e:Nat} {xs:List (List α)} (h:Sl (tSlice t) w S X n e xs) (i:Nat) (hi:i < n) :
  ∃ b off A c,X=some ⟨b,off,none⟩∧S b∧w.cell? ⟨b,off+i,none⟩=some (.slice A (xs.getD i []).length c)∧Sl t w S A (xs.getD i []).length c (xs.getD i []):=by
 obtain ⟨x,b,off,v,m,o,s,f,d,r⟩:=h.cell1 rfl i hi;obtain ⟨A,c,a,l⟩:=aZ.1 d;simp only [List.cons.injEq,and_true] at a;subst a;have:xs.getD i []=x:=by rw [gD,m];rfl
 rw [this];exact ⟨b,off,A,c,o,s,r,l⟩
theorem yg (X:QA) (n a m:Nat) (xs:List (List Int)) (w:World) (h:Sl (tSlice (ab .i16)) w (blo w) X n a xs) (D:1≤n) (d:∀ i,i < n → (xs.getD i []).length=m) :
  Calls prog 252 #[.slice X n a] w fun e w'=>e=.returned (.bool true)∧w'=w:=by
 obtain ⟨b,off,z,F,rfl,-,s,t⟩:=h.row_at 0 oM;rw [d 0 oM] at s t;rw [Nat.add_zero] at s;have c:=h.cap_le;have f:=h.max_le;have q:maxLen≤9223372036854775807:=by decide
 have g:=t.cap_le;have j:=t.max_le;obtain ⟨H,p⟩:=zh2 h d;clear h d;go_in;go_wp2;go_loopw [7] (fun i wr=>∃ k:Nat,k≤n∧i=.int .i64 k∧wr=w) (fun i _=>n - (intOf i).toNat)
 case atStart=>exact ⟨0,zl _,rfl,rfl⟩
 case round =>
  obtain ⟨k,C,rfl,rfl⟩:=hrel;by_cases r:k < n
  ·have E:(k:Int) < (n:Int):=oM;obtain ⟨A,y,x,B,l,-,v,-⟩:=H.o.row_at k r;simp only [Option.some.injEq,Addr.mk.injEq,and_true] at l;obtain ⟨rfl,rfl⟩:=l;rw [p.o k r] at v;go_wp2;exact ⟨⟨k+1,by omega,by go_num,by trivial⟩,by simp [intOf];omega⟩
  ·obtain rfl:k=n:=oM;go_wp2;go_ret;exact ⟨rfl,by trivial⟩
end Go.Proofs.YtbecbfpoahhpnaaGreat
