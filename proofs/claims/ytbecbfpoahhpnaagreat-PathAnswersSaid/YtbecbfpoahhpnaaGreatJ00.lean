/- What rows of cells stand for: integers, bools, strings, structs, slices of any of them, as Lean data, in a world and within a set of blocks. -/
import Derived.WalkSpells
import Derived.WalkLawsBesides
import Derived.Deep.Slices
import Derived.Lib.Hide
import Derived.BigQuiet
import Derived.Handy
import Derived.Deep.RegionHeld3
import Derived.Test.YtbecbfpoahhpnaaGreatChecked
import Derived.Shelf.Bits.Mul64
import Derived.StillTailTactics
set_option linter.unusedVariables false
set_option linter.unusedSimpArgs false
set_option maxRecDepth 100000
set_option maxHeartbeats 16000000
namespace Go.Proofs.YtbecbfpoahhpnaaGreat
open Go.RowKit Go.ChangeShapes Go.WideShapes Go.Deep Tryz
/-- Cells as data: a number of cells; when a list of values, in a world, within the blocks S, stands for x. -/
structure Ty (α:Type) where
 size:Nat
 rep:World → (Nat → Prop) → List Value → α → Prop
 len:∀ {w S cs x},rep w S cs x → cs.length=size
 keep:∀ {w w' S cs x},rep w S cs x → (∀ b,S b → w'.heap[b]?=w.heap[b]?) → rep w' S cs x
 more:∀ {w S S' cs x},rep w S cs x → (∀ b,S b → S' b) → rep w S' cs x
 one:∀ {w S cs x},rep w S cs x → ∀ u ∈ cs,u.oneCell'=true
/-- Blocks below a number. -/
def blo (n:Nat):Nat → Prop:=fun b=>b < n
/-- Blocks between two numbers. -/
def bin (m n:Nat):Nat → Prop:=fun b=>m≤b∧b < n
theorem pN {m n:Nat}:∀ b,bin m n b → blo n b:=fun _ h=>h.2
theorem aW {m n e t:Nat} (h:e≤m) (a:n≤t):∀ b,bin m n b → bin e t b:=fun _ k=>⟨Nat.le_trans h k.1,Nat.lt_of_lt_of_le k.2 a⟩
theorem dV {n e:Nat} (t:n≤e):∀ b,blo n b → blo e b:=fun _ k=>Nat.lt_of_lt_of_le k t
def InK (k:IntKind) (n:Int):Prop:=k.min≤n∧n≤k.max
instance (k:IntKind) (n:Int):Decidable (InK k n):=inferInstanceAs (Decidable (_∧_))
theorem bj {n:Int}:InK .i8 n ↔ -128≤n∧n≤127:=by simp [InK,IntKind.min,IntKind.max,IntKind.signed,IntKind.bits]
theorem mH {n:Int}:InK .i16 n ↔ -32768≤n∧n≤32767:=by simp [InK,IntKind.min,IntKind.max,IntKind.signed,IntKind.bits]
theorem cE {n:Int}:InK .i32 n ↔ -2147483648≤n∧n≤2147483647:=by simp [InK,IntKind.min,IntKind.max,IntKind.signed,IntKind.bits]
theorem ai {n:Int}:InK .i64 n ↔ -9223372036854775808≤n∧n≤9223372036854775807:=by simp [InK,IntKind.min,IntKind.max,IntKind.signed,IntKind.bits]
theorem bK {k:IntKind} {a b:Int} (h:a=b):Ending.returned (.int k a)=.returned (.int k b):=by rw [h]
theorem aC {a b:Bool} (h:a=b):Ending.returned (.bool a)=.returned (.bool b):=by rw [h]
theorem bG {α:Type} (l:List α) (k:Nat) (x:α) (h:l[k]?=some x):l.take (k+1)=l.take k ++ [x]:=by
 have e:k < l.length:=(List.getElem?_eq_some_iff.1 h).1;rw [List.take_succ_eq_append_getElem e];rw [List.getElem?_eq_getElem e] at h;injection h with h
 rw [h]
def ab (k:IntKind):Ty Int where
 size:=1
 rep:=fun _ _ cs n=>cs=[.int k n]∧InK k n
 len:=by rintro w S cs x ⟨rfl,_⟩;rfl
 keep:=fun h _=>h
 more:=fun h _=>h
 one:=by rintro w S cs x ⟨rfl,_⟩ u hu;simp at hu;subst hu;rfl
def xQ:Ty Bool where
 size:=1
 rep:=fun _ _ cs b=>cs=[.bool b]
 len:=by rintro w S cs x rfl;rfl
 keep:=fun h _=>h
 more:=fun h _=>h
 one:=by rintro w S cs x rfl u hu;simp at hu;subst hu;rfl
/-- Two things one behind the other. -/
def tPair {α β:Type} (t:Ty α) (u:Ty β):Ty (α × β) where
 size:=t.size+u.size
 rep:=fun w S cs x=>∃ c d,cs=c ++ d∧t.rep w S c x.1∧u.rep w S d x.2
 len:=by rintro w S cs x ⟨c,d,rfl,h1,h2⟩;rw [List.length_append,t.len h1,u.len h2]
 keep:=by rintro w w' S cs x ⟨c,d,rfl,h1,h2⟩ h;exact ⟨c,d,rfl,t.keep h1 h,u.keep h2 h⟩
 more:=by rintro w S S' cs x ⟨c,d,rfl,h1,h2⟩ h;exact ⟨c,d,rfl,t.more h1 h,u.more h2 h⟩
 one:=by rintro w S cs x ⟨c,d,rfl,h1,h2⟩ v hv;exact (List.mem_append.1 hv).elim (fun h=>t.one h1 v h) (fun h=>u.one h2 v h)
/-- The same cells read as another type. -/
def tMap {α β:Type} (f:α → β) (t:Ty α):Ty β where
 size:=t.size
 rep:=fun w S cs y=>∃ x,y=f x∧t.rep w S cs x
 len:=by rintro w S cs y ⟨x,rfl,h⟩;exact t.len h
 keep:=by rintro w w' S cs y ⟨x,rfl,h⟩ hk;exact ⟨x,rfl,t.keep h hk⟩
 more:=by rintro w S S' cs y ⟨x,rfl,h⟩ hk;exact ⟨x,rfl,t.more h hk⟩
 one:=by rintro w S cs y ⟨x,rfl,h⟩;exact t.one h
/-- Element number i of a row that begins at an address. -/
def elemAt {α:Type} (t:Ty α) (w:World) (S:Nat → Prop) (A:Option Addr) (i:Nat) (x:α):Prop :=
 ∃ a xs,A=some a∧S a.block∧t.rep w S xs x∧∀ j v,xs[j]?=some v → w.cell? (a.add (i*t.size+j))=some v
/-- A slice of anything. -/
def tSlice {α:Type} (t:Ty α):Ty (List α) where
 size:=1
 rep:=fun w S cs l=>∃ A cap,cs=[.slice A l.length cap]∧l.length≤cap∧cap≤maxLen∧(A=none → cap=0)∧∀ i x,l[i]?=some x → elemAt t w S A i x
 len:=by rintro w S cs x ⟨A,cap,rfl,_⟩;rfl
 keep:=by
  rintro w w' S cs l ⟨A,cap,rfl,h1,h2,h3,h4⟩ hk;refine ⟨A,cap,rfl,h1,h2,h3,fun i x hx=>?_⟩;obtain ⟨a,xs,rfl,hS,hr,hc⟩:=h4 i x hx;refine ⟨a,xs,rfl,hS,t.keep hr hk,fun j v hv=>?_⟩;rw [World.cell?_of_block (w:=w)]
  ·exact hc j v hv
  ·have:(a.add (i*t.size+j)).block=a.block:=by unfold Addr.add;split <;> rfl
   rw [this];exact hk _ hS
 more:=by
  rintro w S S' cs l ⟨A,cap,rfl,h1,h2,h3,h4⟩ hk;refine ⟨A,cap,rfl,h1,h2,h3,fun i x hx=>?_⟩;obtain ⟨a,xs,rfl,hS,hr,hc⟩:=h4 i x hx;exact ⟨a,xs,rfl,hk _ hS,t.more hr hk,hc⟩
 one:=by rintro w S cs l ⟨A,cap,rfl,_⟩ u hu;simp at hu;subst hu;rfl
/-- A slice's own facts: its value, and each element. -/
structure Sl {α:Type} (t:Ty α) (w:World) (S:Nat → Prop) (A:Option Addr) (n cap:Nat) (l:List α):Prop where
 n_eq:l.length=n
 cap_le:n≤cap
 max_le:cap≤maxLen
 nil_:A=none → cap=0
 at_:∀ i x,l[i]?=some x → elemAt t w S A i x
section
variable {α:Type} {t:Ty α} {w w':World} {S S':Nat → Prop} {A:Option Addr} {n cap:Nat} {l:List α}
theorem aZ {cs:List Value}:(tSlice t).rep w S cs l ↔ ∃ A e,cs=[.slice A l.length e]∧Sl t w S A l.length e l :=
 ⟨fun ⟨A,e,h,o,i,n,s⟩=>⟨A,e,h,rfl,o,i,n,s⟩,fun ⟨A,e,h,a⟩=>⟨A,e,h,a.cap_le,a.max_le,a.nil_,a.at_⟩⟩
theorem Sl.rep (h:Sl t w S A n cap l):(tSlice t).rep w S [.slice A n cap] l:=by
 obtain ⟨rfl,e,a,o,i⟩:=h;exact ⟨A,cap,rfl,e,a,o,i⟩
theorem Sl.of_rep (h:(tSlice t).rep w S [.slice A n cap] l):Sl t w S A n cap l:=by
 obtain ⟨d,e,a,o,i,s,r⟩:=h;simp only [List.cons.injEq,Value.slice.injEq,and_true] at a;obtain ⟨rfl,rfl,rfl⟩:=a;exact ⟨rfl,o,i,s,r⟩
theorem Sl.keep (h:Sl t w S A n cap l) (e:∀ b,S b → w'.heap[b]?=w.heap[b]?):Sl t w' S A n cap l:=.of_rep ((tSlice t).keep h.rep e)
theorem Sl.more (h:Sl t w S A n cap l) (e:∀ b,S b → S' b):Sl t w S' A n cap l:=.of_rep ((tSlice t).more h.rep e)
/-- Read in a later world, within all of its blocks. -/
theorem Sl.later {i:Nat} (h:Sl t w (blo i) A n cap l) (a:Below w.heap.size w w') (o:i≤w.heap.size):Sl t w' (blo w'.heap.size) A n cap l :=
 (h.keep fun b e=>a.block b (Nat.lt_of_lt_of_le e o)).more fun b e=>Nat.lt_of_lt_of_le (Nat.lt_of_lt_of_le e o) a.size
theorem Sl.below {B:Nat} (h:Sl t w S A n cap l) (a:Below B w w') (e:∀ b,S b → b < B):Sl t w' S A n cap l:=h.keep fun b o=>a.block b (e b o)
theorem Sl.nil (t:Ty α) (w:World) (S:Nat → Prop):Sl t w S none 0 0 ([]:List α):=⟨rfl,Nat.le_refl _,Nat.zero_le _,fun _=>rfl,by simp⟩
theorem Addr.add_block (a:Addr) (i:Nat):(a.add i).block=a.block:=by unfold Addr.add;split <;> rfl
/-- An element of several cells, where the walk looks for it. -/
theorem Sl.cells (h:Sl t w S A n cap l) (i:Nat) (hi:i < n) (G:0 < t.size):∃ (x:α) (b off:Nat) (xs:List Value),l[i]?=some x∧A=some ⟨b,off,none⟩∧S b∧b < w.heap.size∧t.rep w S xs x∧xs.length=t.size ∧
  ∀ j v,xs[j]?=some v → w.cell? ⟨b,off+(i*t.size+j),none⟩=some v:=by
 have k:i < l.length:=by rw [h.n_eq];exact hi
 obtain ⟨a,xs,g,C,q,D⟩:=h.at_ i l[i] (List.getElem?_eq_getElem k);have d:=t.len q;have m:0 < l.length:=by omega
 obtain ⟨F,c,hA0,_,p,f⟩:=h.at_ 0 l[0] (List.getElem?_eq_getElem m);rw [g] at hA0;injection hA0 with hA0
 subst hA0;have y:=t.len p;have z:=f 0 (c[0]'(by omega)) (List.getElem?_eq_getElem (by omega));obtain ⟨b,off,e⟩:=a;have r:e=none:=by
  have o:w.cell? ⟨b,off,e⟩=some (c[0]'(by omega)):=by simpa [Addr.add] using z
  unfold World.cell? at o;cases e with
  | none=>rfl
  | some s =>
   split at o
   ·simp at o
   ·cases o
 subst r;refine ⟨l[i],b,off,xs,List.getElem?_eq_getElem k,g,C,?_,q,d,fun j v E=>?_⟩
 ·have:=World.block_lt_of_cell? w _ z;simpa [Addr.add_block] using this
 ·have:=D j v E;rw [← this];unfold Addr.add;split
  ·rename_i B;rw [B];rfl
  ·rfl
/-- An element of one cell, where the walk looks for it. -/
theorem Sl.cell1 (h:Sl t w S A n cap l) (a:t.size=1) (i:Nat) (hi:i < n):∃ (x:α) (b off:Nat) (v:Value),l[i]?=some x∧A=some ⟨b,off,none⟩∧S b∧b < w.heap.size∧t.rep w S [v] x∧w.cell? ⟨b,off+i,none⟩=some v:=by
 obtain ⟨x,b,off,xs,m,o,s,r,c,e,d⟩:=h.cells i hi (by omega);rw [a] at e
 match xs,e with
 | [v],_ =>
  have:=d 0 v rfl;rw [a,Nat.mul_one,Nat.add_zero] at this;exact ⟨x,b,off,v,m,o,s,r,c,this⟩
end
/-- A piece of a slice, as the walk spells it. -/
theorem Sl.sub {α:Type} {t:Ty α} {w:World} {S:Nat → Prop} {b off n o:Nat} {l:List α} (h:Sl t w S (some ⟨b,off,none⟩) n o l) (p m q c:Nat) (A:q=p*t.size) (E:p+m≤n) (z:m≤c) (d:c≤o) :
  Sl t w S (some ⟨b,off+q,none⟩) m c ((l.drop p).take m):=by
 have D:=h.n_eq;refine ⟨by rw [List.length_take,List.length_drop];omega,z,Nat.le_trans d h.max_le,(fun h=>by cases h),fun i x s=>?_⟩;rw [List.getElem?_take] at s;split at s
 ·rw [List.getElem?_drop] at s;obtain ⟨a,xs,r,g,B,f⟩:=h.at_ _ x s;injection r with r
  subst r;refine ⟨_,xs,rfl,g,B,fun j v C=>?_⟩;rw [← f j v C];have e:∀ k,(⟨b,off,none⟩:Addr).add k=⟨b,off+k,none⟩:=fun k=>by unfold Addr.add;split <;> simp_all
  have y:∀ k,(⟨b,off+q,none⟩:Addr).add k=⟨b,off+q+k,none⟩:=fun k=>by unfold Addr.add;split <;> simp_all
  rw [e,y,A,Nat.add_mul];congr 2;omega
 ·cases s
/-- An element of a slice of integers. -/
theorem Sl.int_at {k:IntKind} {w:World} {S:Nat → Prop} {A:Option Addr} {n e:Nat} {l:List Int} (h:Sl (ab k) w S A n e l) (i:Nat) (hi:i < n) :
  ∃ b off,A=some ⟨b,off,none⟩∧S b∧b < w.heap.size∧w.cell? ⟨b,off+i,none⟩=some (.int k (l.getD i 0))∧InK k (l.getD i 0):=by
 obtain ⟨x,b,off,v,c,a,o,s,⟨t,d⟩,r⟩:=h.cell1 rfl i hi;simp only [List.cons.injEq,and_true] at t;subst t;have:l.getD i 0=x:=by rw [List.getD_eq_getElem?_getD,c];rfl
 rw [this];exact ⟨b,off,a,o,s,r,d⟩
theorem Sl.allK {k:IntKind} {w:World} {S:Nat → Prop} {A:Option Addr} {n e:Nat} {l:List Int} (h:Sl (ab k) w S A n e l) (i:Nat):InK k (l.getD i 0):=by
 by_cases hi:i < n
 ·obtain ⟨_,_,_,_,_,_,h⟩:=h.int_at i hi;exact h
 ·rw [List.getD_eq_getElem?_getD,List.getElem?_eq_none (by rw [h.n_eq];omega)];cases k <;> decide
theorem gT {B:Nat} {w w':World} {p:Addr} {v:Value} (e:Below B w w') (h:w.cell? p=some v) (t:p.block < B):w'.cell? p=some v:=(e.cell t).trans h
theorem au {w w':World} {p:Addr} {v:Value} (e:Below w.heap.size w w') (h:w.cell? p=some v):w'.cell? p=some v:=gT e h (World.block_lt_of_cell? w _ h)
theorem aa {w0 w w':World} (e:Below w.heap.size w w') (h:Below w0.heap.size w0 w):Below w0.heap.size w0 w':=h.trans (e.mono h.size)
theorem az {B:Nat} {a w w':World} (h:Below B a w) (t:Below w.heap.size w w') (e:B≤w.heap.size):Below B a w':=h.trans (t.mono e)
/-- A call hands back a slice in new memory that reads as a list, and leaves old memory as it was. -/
def RetSl {α:Type} (t:Ty α) (w:World) (l:List α) (e:Ending) (w':World):Prop :=
 ∃ A n cap,e=.returned (.slice A n cap)∧Sl t w' (bin w.heap.size w'.heap.size) A n cap l∧Below w.heap.size w w'
/-! ### Arguments opened -/
section
variable {H:Type} {enc:TypeId × Value → H} {P:Program} {w:World} {spare:Nat → Bool} {held:Bool}
/-- Whatever reads as data of this type stands for something. -/
def Opens (P:Program) {α:Type} (T:TypeId) (t:Ty α):Prop :=
 P.cellsOf T=t.size∧∀ {H:Type} {enc:TypeId × Value → H} {w:World} {base:Nat} {spare:Nat → Bool} {held:Bool} {fuel:Nat} {cs:List Value} {x:DataW H × List MemPlace},
  DataW.trod enc P w base spare held fuel T cs=some x → ∃ y,t.rep w (blo w.heap.size) cs y
theorem iR {T:TypeId} {k:IntKind} (t:P.underlying T=some (.int k)) (a:P.cellsOf T=1):Opens P T (ab k):=by
 refine ⟨a,fun h=>?_⟩;obtain ⟨n,rfl,_,e⟩:=DataW.trod_int t h;exact ⟨n,rfl,by simp only [Lit.wf,Bool.and_eq_true,decide_eq_true_eq] at e;exact e⟩
theorem xg {T:TypeId} (e:P.underlying T=some .bool) (t:P.cellsOf T=1):Opens P T xQ:=by
 refine ⟨t,fun h=>?_⟩;obtain ⟨b,rfl,_⟩:=DataW.trod_bool e h;exact ⟨b,rfl⟩
theorem s7 {base:Nat} {a:Addr} {n:Nat} {cs:List Value} (h:w.cells? base a n=some cs):cs.length=n∧∀ j v,cs[j]?=some v → w.cell? (a.add j)=some v:=by
 obtain ⟨_,t,e⟩:=World.cells?_some h;refine ⟨t,fun j v o=>?_⟩;have i:j < n:=by rw [← t];exact (List.getElem?_eq_some_iff.1 o).1
 rw [e j i,o]
theorem f9 {α:Type} {T E:TypeId} {t:Ty α} (G:P.underlying T=some (.slice E)) (I:P.cellsOf T=1) (U:0 < t.size) (B:Opens P E t):Opens P T (tSlice t):=by
 refine ⟨I,fun {H enc w base spare held fuel cs x} h=>?_⟩;rcases open_slice G h with ⟨rfl,_⟩|⟨a,len,c,m,V,D,O,rfl,Q,S,M,q,_,hi⟩
 ·exact ⟨[],none,0,rfl,Nat.le_refl _,Nat.zero_le _,fun _=>rfl,by simp⟩
 ·have L:len≤m:=by rw [q];split <;> omega
  have b:∀ i,i < len → ∃ y,∃ xs,t.rep w (blo w.heap.size) xs y∧∀ j v,xs[j]?=some v → w.cell? (a.add (i*t.size+j))=some v:=by
   intro i K;obtain ⟨cs',p,A⟩:=hi i (by omega);obtain ⟨y,d⟩:=B.2 A;obtain ⟨_,f⟩:=s7 p;refine ⟨y,cs',d,fun j v N=>?_⟩;rw [← f j v N,← Go.Deep.add_add,B.1]
  have n:∀ k,k≤len → ∃ l:List α,l.length=k∧∀ i y,l[i]?=some y → ∃ xs,t.rep w (blo w.heap.size) xs y∧∀ j v,xs[j]?=some v → w.cell? (a.add (i*t.size+j))=some v:=by
   intro k
   induction k with
   | zero=>exact fun _=>⟨[],rfl,by simp⟩
   | succ k ih =>
    intro R;obtain ⟨l,e,o⟩:=ih (by omega);obtain ⟨y,d⟩:=b k (by omega);refine ⟨l ++ [y],by simp [e],fun i z s=>?_⟩;by_cases J:i < k
    ·rw [List.getElem?_append_left (by omega)] at s;exact o i z s
    ·rw [List.getElem?_append_right (by omega),e] at s;have g:i - k=0:=by
      have:=(List.getElem?_eq_some_iff.1 s).1;simp at this;omega
     rw [g] at s;simp only [List.getElem?_cons_zero,Option.some.injEq] at s;subst s;have:i=k:=by omega
     subst this;exact d
  obtain ⟨l,e,o⟩:=n len (Nat.le_refl _);refine ⟨l,some a,c,by rw [e],by omega,M,(fun h=>by cases h),fun i y d=>?_⟩;obtain ⟨xs,F,r⟩:=o i y d;refine ⟨a,xs,rfl,?_,F,r⟩;have C:=t.len F;have:=World.block_lt_of_cell? w _ (r 0 (xs[0]'(by omega)) (List.getElem?_eq_getElem (by omega)));rw [Addr.add_block] at this;exact this
/-- One thing less of a struct's cells. -/
structure OpensFrom (P:Program) {α:Type} (fs:List Field) (t:Ty α) (o:Nat):Prop where
 out:∀ {H:Type} {enc:TypeId × Value → H} {w:World} {base:Nat} {spare:Nat → Bool} {held:Bool} {fuel:Nat} {cs:List Value},
  cs.length=o+t.size → (∀ (i:Nat) (f:Field),fs[i]?=some f → ∃ x:DataW H × List MemPlace,DataW.trod enc P w base spare held fuel f.type ((cs.drop f.offset).take (P.cellsOf f.type))=some x) →
  ∃ y,t.rep w (blo w.heap.size) (cs.drop o) y
theorem dd {α:Type} {t:Ty α} {f:Field} {o:Nat} (i:f.offset=o) (e:Opens P f.type t):OpensFrom P [f] t o:=by
 constructor;intro H enc w base spare held fuel cs n h;obtain ⟨x,a⟩:=h 0 f rfl;rw [i,e.1,List.take_of_length_le (by rw [List.length_drop];omega)] at a;exact e.2 a
theorem aA {α β:Type} {t:Ty α} {u:Ty β} {f:Field} {e:List Field} {o:Nat} (d:f.offset=o) (a:Opens P f.type t) (l:OpensFrom P e u (o+t.size)) :
  OpensFrom P (f :: e) (tPair t u) o:=by
 constructor;intro H enc w base spare held fuel cs r h;obtain ⟨x,n⟩:=h 0 f rfl;rw [d,a.1] at n;obtain ⟨y,c⟩:=a.2 n;obtain ⟨z,m⟩:=l.out (cs:=cs) (by rw [r];simp only [tPair];omega) (fun i g s=>h (i+1) g s);refine ⟨(y,z),_,_,?_,c,m⟩;rw [← List.drop_drop,List.take_append_drop]
theorem dQ {α:Type} {T:TypeId} {a:Array Field} {t:Ty α} (d:P.underlying T=some (.struct a)) (l:P.cellsOf T=t.size) (h:OpensFrom P a.toList t 0):Opens P T t:=by
 refine ⟨l,fun {H enc w base spare held fuel cs x} s=>?_⟩;obtain ⟨xs,n,_,_,m,r,o⟩:=DataW.trod_struct d s;have:=h.out (H:=H) (enc:=enc) (w:=w) (base:=base) (spare:=spare) (held:=held) (fuel:=n) (cs:=cs) (by omega) (fun i f c=>?_)
 ·simpa using this
 ·have e:a[i]?=some f:=by simpa using c
  have hi:i < xs.length:=by rw [r];exact (Array.getElem?_eq_some_iff.1 e).1
  exact ⟨xs[i],by rw [o i f e,List.getElem?_eq_getElem hi]⟩
theorem iS {α β:Type} {T:TypeId} {t:Ty α} (f:α → β) (h:Opens P T t):Opens P T (tMap f t) :=
 ⟨h.1,fun e=>let ⟨y,a⟩:=h.2 e;⟨f y,y,rfl,a⟩⟩
/-- An argument opened: its value stands for something. -/
theorem Opens.trod {α:Type} {T:TypeId} {t:Ty α} (h:Opens P T t) {base:Nat} {v:Value} {d:DataW H} {p:List MemPlace} (a:DataW.Trod enc P w base spare held T v d p):∃ y,t.rep w (blo w.heap.size) v.cells.toList y :=
 let ⟨_,e⟩:=a;h.2 e
end
/-- A list of values that is one row of data behind the other. -/
def RowsOf {α:Type} (t:Ty α) (w:World) (S:Nat → Prop):List Value → List α → Prop
 | vs,[]=>vs=[]
 | vs,x :: l=>∃ xs ys,vs=xs ++ ys∧t.rep w S xs x∧RowsOf t w S ys l
section
variable {α:Type} {t:Ty α} {w w':World} {S S':Nat → Prop} {vs us:List Value} {l m:List α}
theorem RowsOf.len (h : RowsOf t w S vs l) : vs.length = l.length * t.size := by
  induction l generalizing vs with
  | nil => have : vs = [] := h
           subst this; simp
  | cons x l ih =>
    obtain ⟨xs, ys, rfl, h1, h2⟩ := h
    rw [List.length_append, t.len h1, ih h2, List.length_cons, Nat.add_mul]; omega
theorem RowsOf.keep (h:RowsOf t w S vs l) (o:∀ b,S b → w'.heap[b]?=w.heap[b]?):RowsOf t w' S vs l:=by
 induction l generalizing vs with
 | nil=>exact h
 | cons x l ih =>
  obtain ⟨xs,i,rfl,e,a⟩:=h;exact ⟨xs,i,rfl,t.keep e o,ih a⟩
theorem RowsOf.more (h:RowsOf t w S vs l) (o:∀ b,S b → S' b):RowsOf t w S' vs l:=by
 induction l generalizing vs with
 | nil=>exact h
 | cons x l ih =>
  obtain ⟨xs,i,rfl,e,a⟩:=h;exact ⟨xs,i,rfl,t.more e o,ih a⟩
theorem RowsOf.append (h : RowsOf t w S vs l) (h' : RowsOf t w S us m) : RowsOf t w S (vs ++ us) (l ++ m) := by
  induction l generalizing vs with
  | nil => have : vs = [] := h
           subst this; exact h'
  | cons x l ih =>
    obtain ⟨xs, ys, rfl, h1, h2⟩ := h
    exact ⟨xs, ys ++ us, by simp, h1, ih h2⟩
theorem RowsOf.one {x:α} (h:t.rep w S vs x):RowsOf t w S vs [x]:=⟨vs,[],by simp,h,rfl⟩
theorem RowsOf.cons {x:α} (h:t.rep w S vs x) (e:RowsOf t w S us l):RowsOf t w S (vs ++ us) (x :: l):=⟨vs,us,rfl,h,e⟩
theorem RowsOf.snoc {x:α} (h:RowsOf t w S vs l) (e:t.rep w S us x):RowsOf t w S (vs ++ us) (l ++ [x]):=h.append (.one e)
theorem RowsOf.nil (t:Ty α) (w:World) (S:Nat → Prop):RowsOf t w S [] ([]:List α):=rfl
theorem RowsOf.at_ (h:RowsOf t w S vs l) (i:Nat) (x:α) (a:l[i]?=some x):∃ xs,t.rep w S xs x∧∀ j v,xs[j]?=some v → vs[i*t.size+j]?=some v:=by
 induction l generalizing vs i with
 | nil=>cases a
 | cons y l ih =>
  obtain ⟨xs,c,rfl,o,n⟩:=h;cases i with
  | zero =>
   simp only [List.getElem?_cons_zero,Option.some.injEq] at a;subst a;refine ⟨xs,o,fun j v e=>?_⟩;rw [Nat.zero_mul,Nat.zero_add,List.getElem?_append_left (List.getElem?_eq_some_iff.1 e).1];exact e
  | succ i =>
   obtain ⟨d,s,r⟩:=ih n i (by simpa using a);refine ⟨d,s,fun j v e=>?_⟩;rw [List.getElem?_append_right (by rw [t.len o,Nat.add_mul];omega),t.len o,show (i+1)*t.size+j - t.size=i*t.size+j by rw [Nat.add_mul];omega];exact r j v e
theorem RowsOf.ints {k:IntKind} {w:World} {S:Nat → Prop} {l:List Int} (h:∀ x ∈ l,InK k x):RowsOf (ab k) w S (l.map (Value.int k)) l:=by
 induction l with
 | nil=>rfl
 | cons x l ih=>exact ⟨[.int k x],l.map (Value.int k),rfl,⟨rfl,h x (by simp)⟩,ih fun y e=>h y (by simp [e])⟩
theorem RowsOf.ints_iff {k:IntKind} {w:World} {S:Nat → Prop} {vs:List Value} {l:List Int} (h:RowsOf (ab k) w S vs l):vs=l.map (Value.int k)∧∀ x ∈ l,InK k x:=by
 induction l generalizing vs with
 | nil=>exact ⟨h,by simp⟩
 | cons x l ih =>
  obtain ⟨xs,i,rfl,⟨rfl,e⟩,t⟩:=h;obtain ⟨rfl,o⟩:=ih t;exact ⟨rfl,by simpa using ⟨e,o⟩⟩
/-- A slice whose cells lie at the head of a block. -/
theorem Sl.of_block {g n a:Nat} {cs:Array Value} {e:TypeId} {s:Nat × Nat} (y:w.heap[g]?=some (.cells cs e s)) (f:S g) (r:n≤a) (d:a≤maxLen) (p:l.length=n)
  (h:RowsOf t w S (cs.toList.take (n*t.size)) l):Sl t w S (some ⟨g,0,none⟩) n a l:=by
 refine ⟨p,r,d,(fun h=>by cases h),fun i x k=>?_⟩;obtain ⟨xs,c,m⟩:=h.at_ i x k;refine ⟨_,xs,rfl,f,c,fun j v b=>?_⟩;have:=m j v b;have o:(⟨g,0,none⟩:Addr).add (i*t.size+j)=⟨g,i*t.size+j,none⟩:=by unfold Addr.add;split <;> simp_all
 rw [o,cell_of_row w g _ cs e s y];rw [List.getElem?_take] at this;split at this
 ·simpa using this
 ·cases this
/-- A slice of the call's own. -/
theorem Sl.of_own {base:Nat} {e:TypeId} {v:Value} {n:Nat} (h:w.ownsRow base e t.size v n vs) (r:RowsOf t w S vs l) (k:0 < t.size) (y:∀ b,base≤b → b < w.heap.size → S b):∃ A a,v=.slice A n a∧Sl t w S A n a l:=by
 have o:=r.len;rw [h.1] at o;have s:l.length=n:=(Nat.eq_of_mul_eq_mul_right k o).symm;rcases h.2 with ⟨rfl,rfl⟩|⟨g,a,d,rfl,p,i,c,m,j,f⟩
 ·have:l=[]:=List.eq_nil_of_length_eq_zero s;subst this;exact ⟨none,0,rfl,Sl.nil t w S⟩
 ·refine ⟨_,a,rfl,Sl.of_block i (y g p (Array.getElem?_eq_some_iff.1 i).1) c m s ?_⟩;rw [f];exact r
end
/-- The numbers of a slice type: its element type, that one's zero value, cells and bytes. -/
structure EI (P:Program) (T E:TypeId) (z:Value) (size bytes:Nat):Prop where
 ht:P.underlying T=some (.slice E)
 hi:(P.info? E).map (fun i=>(i.zero,i.size,i.bytes))=some (some z,size,bytes)
 hz:z.cells.size=size
 hp:0 < size
/-- A slice of the call's own that reads as a list; what the elements lead to lies within S. -/
structure Own {α:Type} (t:Ty α) (w:World) (S:Nat → Prop) (base:Nat) (E:TypeId) (v:Value) (n:Nat) (l:List α):Prop where
 out:∃ vs,w.ownsRow base E t.size v n vs∧RowsOf t w S vs l
section
variable {α:Type} {t:Ty α} {w w':World} {S S':Nat → Prop} {l:List α} {base n:Nat} {E:TypeId} {v:Value}
theorem Own.nil (t:Ty α) (w:World) (S:Nat → Prop) (base:Nat) (E:TypeId):Own t w S base E (.slice none 0 0) 0 ([]:List α):=⟨[],World.ownsRow_nil _ _ _ _,rfl⟩
theorem Own.length (h:Own t w S base E v n l) (o:0 < t.size):l.length=n:=by
 obtain ⟨vs,e,a⟩:=h.out;have:=a.len;rw [e.1] at this;exact (Nat.eq_of_mul_eq_mul_right o this).symm
theorem Own.lt (h:Own t w S base E v n l):∀ k,v.ownBlock=some k → base≤k∧k < w.heap.size:=by
 obtain ⟨vs,e,_⟩:=h.out;exact e.lt
/-- An owned slice while the world grows and another row is written. -/
theorem Own.kept (h:Own t w S base E v n l) {row:Option Nat} (i:w.grownBy w' row) (e:v.ownBlock=none ∨ v.ownBlock ≠ row) (a:∀ b,S b → b < w.heap.size∧some b ≠ row):Own t w' S base E v n l:=by
 obtain ⟨vs,s,r⟩:=h.out;exact ⟨vs,s.kept i e,r.keep fun b o=>i.block b (a b o).1 (a b o).2⟩
theorem Own.flat (h:Own t w S base E v n l) {row:Option Nat} (i:w.grownBy w' row) (e:v.ownBlock=none ∨ v.ownBlock ≠ row) (a:∀ b,¬ S b):Own t w' S base E v n l :=
 h.kept i e fun b o=>(a b o).elim
theorem Own.below (h:Own t w S base E v n l) {B:Nat} (e:Below B w w') (d:w.heap.size≤B) (i:∀ b,S b → b < w.heap.size):Own t w' S base E v n l:=by
 obtain ⟨vs,a,o⟩:=h.out;have s:w.grownBy w' none:=⟨e.os,e.tape,e.output,e.size,fun k c _=>e.block k (by omega)⟩;exact ⟨vs,a.kept s (by cases v.ownBlock <;> simp),o.keep fun b r=>e.block b (by have:=i b r;omega)⟩
theorem Own.heap (h:Own t w S base E v n l) (s:w'.heap=w.heap):Own t w' S base E v n l:=by
 obtain ⟨vs,i,r⟩:=h.out;refine ⟨vs,⟨i.1,?_⟩,r.keep fun b _=>by rw [s]⟩;rcases i.2 with h|⟨g,e,o,a,b,c,d⟩
 ·exact .inl h
 ·exact .inr ⟨g,e,o,a,b,by rw [s];exact c,d⟩
/-- An owned slice read as a slice. -/
theorem Own.sl (h:Own t w S base E v n l) (r:0 < t.size) (s:∀ b,base≤b → b < w.heap.size → S' b) (a:∀ b,S b → S' b):∃ A e,v=.slice A n e∧Sl t w S' A n e l:=by
 obtain ⟨vs,o,i⟩:=h.out;exact Sl.of_own o (i.more a) r s
theorem Own.ret {w0:World} (h:Own t w S w0.heap.size E v n l) (r:0 < t.size) (s:Below w0.heap.size w0 w) (a:∀ b,S b → w0.heap.size≤b∧b < w.heap.size):RetSl t w0 l (.returned v) w:=by
 obtain ⟨A,e,rfl,d⟩:=h.sl (S':=bin w0.heap.size w.heap.size) r (fun b o i=>⟨o,i⟩) a;exact ⟨A,n,e,rfl,d,s⟩
/-- Two slices of the call's own lie in different blocks. -/
def Apart (u v:Value):Prop:=u.ownBlock=none ∨ u.ownBlock ≠ v.ownBlock
theorem Apart.symm {u v:Value} (h:Apart u v):Apart v u:=by
 unfold Apart at *;cases t:v.ownBlock with
 | none=>exact .inl rfl
 | some k =>
  refine .inr fun e=>?_;rcases h with h|h
  ·rw [h] at e;cases e
  ·exact h (by rw [t,e])
theorem Apart.push {u v o:Value} {m:Nat} (h:Apart u v) (t:o.ownBlock=u.ownBlock ∨ o.ownBlock=some m) (a:∀ k,v.ownBlock=some k → k < m):Apart o v:=by
 unfold Apart at *;rcases t with e|e
 ·rw [e];exact h
 ·refine .inr fun i=>?_;have:=a m (by rw [← i,e]);omega
theorem Apart.nil (v:Value):Apart (.slice none 0 0) v:=.inl rfl
theorem aI {B:Nat} {a w:World} (h:Below B a w) (n:Nat):Below B a (w.drewN n):=⟨h.os,h.tape,h.output,h.size,h.block⟩
variable {P:Program} {ops:Array Oper} {rest:List Oper} {o:Oper} {a:Act} {Q:Exit → Act → World → Prop} {T:TypeId} {z:Value} {bytes:Nat}
/-- 'l = append(l, x)' where l is the call's own: the new element lies in a block that was laid just now. -/
theorem wpList_push {W:World} {cs:Array Value} (C:o.guard=none) (s x:Operand) (R:o.op=.call { callee:=.builtin .append,args:=#[s,x],argTypes:=#[T,T] }) (g:EI P T E z t.size bytes)
  (U:a.eval s=v) (J:Own t W S base E v n l) (c:Nat) (X:a.eval x=.slice (some ⟨W.heap.size,0,none⟩) 1 c) (y:α) (F:t.rep W S cs.toList y)
  (q:n+1≤maxLen) (e:(n+1)*bytes≤140737488355328) (A:base≤W.heap.size) (r:∀ b,S b → b < W.heap.size∧some b ≠ v.ownBlock)
  (h:∀ m w',Own t w' S base E m (n+1) (l ++ [y]) → W.grownBy w' v.ownBlock → (m.ownBlock=v.ownBlock ∨ m.ownBlock=some (W.heap.size+1)) → wpList P ops Q rest (a.put o.dst m) w') :
  wpList P ops Q (o :: rest) a (W.alloc (.cells cs E)):=by
 obtain ⟨i,hi,G,H,I⟩:=info_parts g.hi;obtain ⟨vs,L,M⟩:=J.out;have d:∀ j u,cs.toList[j]?=some u → (W.alloc (.cells cs E)).cell? ((⟨W.heap.size,0,none⟩:Addr).add j)=some u:=by
  intro j u V;have f:(⟨W.heap.size,0,none⟩:Addr).add j=⟨W.heap.size,j,none⟩:=by unfold Addr.add;split <;> simp_all
  rw [f,cell_of_row (W.alloc (.cells cs E)) W.heap.size j cs E (0,0) (heap_alloc_new W _)];simpa using V
 obtain ⟨m,w',p,k1,k2,_,Y⟩:=run_append_own_at (P:=P) (W.alloc (.cells cs E)) base T o.type E i z t.size bytes g.ht hi G H I g.hz g.hp v n vs (L.alloc _) ⟨W.heap.size,0,none⟩ 1 c cs.toList
  (by rw [t.len F,Nat.one_mul]) d (t.one F) q e (by simp;omega)
 have B:W.grownBy w' v.ownBlock:=⟨k2.os,k2.tape,k2.output,Nat.le_trans (by simp) k2.size,fun k O D=>(k2.block k (by simp;omega) D).trans (Below.heap_alloc W _ k O)⟩;refine wpList_plain C fun K N=>?_;unfold Oper.wp execOp;simp only [R,resolve,invoke,builtin,Sem.run_bind,Sem.run_pure,Result.andThen_ok,List.map_toArray,List.map_cons,List.map_nil,U,X,p];refine N _ _ (h m w' ⟨vs ++ cs.toList,k1,?_⟩ B (by simpa using Y));refine (M.keep fun b w=>B.block b (r b w).1 (r b w).2).snoc (t.keep F fun b w=>B.block b (r b w).1 (r b w).2)
/-- 'make([]T, n)'. -/
theorem wpList_make {W:World} (p:o.guard=none) (lo y:Operand) (v:o.op=Op.makeSlice T lo y) (l:EI P T E z t.size bytes)
  (N M:IntKind) (L C:Int) (n:Nat) (hl:a.eval lo=.int N L) (hc:a.eval y=.int M C) (Y:L=(n:Int)) (X:C=(n:Int)) (O:bytes*n≤281474976710656) (R:n≤maxLen) (U:base≤W.heap.size)
  (w:α) (f:t.rep W S z.cells.toList w) (Z:∀ b,S b → b < W.heap.size)
  (h:∀ w',Own t w' S base E (.slice (some ⟨W.heap.size,0,none⟩) n n) n (List.replicate n w) → W.grownBy w' none → wpList P ops Q rest (a.put o.dst (.slice (some ⟨W.heap.size,0,none⟩) n n)) w') :
  wpList P ops Q (o :: rest) a W:=by
 obtain ⟨i,hi,B,D,F⟩:=info_parts l.hi;refine wpList_make_full W p lo y T v base E i z t.size l.ht hi B D N M L C n hl hc Y X (by rw [F];exact O) R U fun w' V I=>h w' ⟨_,V,?_⟩ I;have x:t.rep w' S z.cells.toList w:=t.keep f fun b c=>I.block b (Z b c) (by simp);have s:=l.hz;have G:∀ m,(madeCells z.cells (m*t.size)).toList=(List.replicate m z.cells.toList).flatten:=by
  intro m;apply List.ext_getElem?;intro j;have K:=l.hp;simp only [madeCells,Array.toList_map,Array.toList_range];by_cases J:j < m*t.size
  ·rw [List.getElem?_map,List.getElem?_range J];have g:j / t.size < m:=by rw [Nat.div_lt_iff_lt_mul K];exact J
   have d:j % t.size < t.size:=Nat.mod_lt _ K;have:∀ k,k≤m → ∀ r,r < t.size → ∀ q,q < k → (List.replicate k z.cells.toList).flatten[q*t.size+r]?=z.cells[r]?:=by
    intro k
    induction k with
    | zero=>intro _ r _ q g;omega
    | succ k ih =>
     intro hk r f q g;rw [List.replicate_succ,List.flatten_cons];cases q with
     | zero=>rw [Nat.zero_mul,Nat.zero_add,List.getElem?_append_left (by simpa [s] using f)];simp
     | succ q =>
      rw [List.getElem?_append_right (by simp [s];rw [Nat.add_mul];omega)];have e:(q+1)*t.size+r - z.cells.toList.length=q*t.size+r:=by simp [s];rw [Nat.add_mul];omega
      rw [e];exact ih (by omega) r f q (by omega)
   have H:=this m (Nat.le_refl _) (j % t.size) d (j / t.size) g;rw [Nat.mul_comm,Nat.div_add_mod] at H;rw [H];have c:j % t.size < z.cells.size:=by omega
   rw [s,Array.getElem?_eq_getElem c];simp [getElem!_pos,c]
  ·rw [List.getElem?_eq_none (by simp;omega),List.getElem?_eq_none (by simp [s];omega)]
 rw [G];have:∀ m,RowsOf t w' S (List.replicate m z.cells.toList).flatten (List.replicate m w):=by
  intro m
  induction m with
  | zero=>rfl
  | succ m ih=>rw [List.replicate_succ,List.flatten_cons,List.replicate_succ];exact ⟨_,_,rfl,x,ih⟩
 exact this n
/-- A cell of an owned slice of one-cell elements, as a store asks it. -/
theorem Own.cell {g e:Nat} (h:Own t w S base E (.slice (some ⟨g,0,none⟩) n e) n l) (f:t.size=1) (i:Nat) (hi:i < n) :
  ∃ x u,l[i]?=some x∧t.rep w S [u] x∧w.cell? ⟨g,i,none⟩=some u∧w.frozen? ⟨g,i,none⟩=false∧g < w.heap.size∧base≤g:=by
 obtain ⟨vs,a,p⟩:=h.out;have m:=h.length (by omega);have y:l[i]?=some (l[i]'(by omega)):=List.getElem?_eq_getElem (by omega);obtain ⟨xs,o,s⟩:=p.at_ i _ y;have c:=t.len o;rw [f] at c s
 match xs,c with
 | [u],_ =>
  have r:=s 0 u rfl;rw [Nat.mul_one,Nat.add_zero] at r;have v:=a.cellAt i (by rw [f];omega);have d:=h.lt g rfl;exact ⟨_,u,y,o,by rw [v];exact r,a.frozenAt i,d.2,d.1⟩
theorem RowsOf.set1 {vs : List Value} (h : RowsOf t w S vs l) (ht : t.size = 1) (i : Nat) (u : Value) (x : α) (hr : t.rep w S [u] x) : RowsOf t w S (vs.set i u) (l.set i x) := by
  induction l generalizing vs i with
  | nil => have : vs = [] := h
           subst this; rfl
  | cons y l ih =>
    obtain ⟨xs, ys, rfl, h1, h2⟩ := h
    have hl := t.len h1
    rw [ht] at hl
    match xs, hl with
    | [c], _ =>
      cases i with
      | zero => exact ⟨[u], ys, rfl, hr, h2⟩
      | succ i => exact ⟨[c], ys.set i u, rfl, h1, ih h2 i⟩
/-- 'l[i] = x' in a slice of the call's own. -/
theorem Own.set1 {g e:Nat} (h:Own t w S base E (.slice (some ⟨g,0,none⟩) n e) n l) (c:t.size=1) (i:Nat) (u:Value) (x:α) (d:t.rep w S [u] x) (s:∀ b,S b → b ≠ g) :
  Own t (w.setCell ⟨g,i,none⟩ u) S base E (.slice (some ⟨g,0,none⟩) n e) n (l.set i x)∧w.grownBy (w.setCell ⟨g,i,none⟩ u) (some g):=by
 obtain ⟨vs,a,o⟩:=h.out;obtain ⟨k1,k2⟩:=a.stored i u;exact ⟨⟨_,k1,(o.set1 c i u x d).keep fun b r=>Below.heap_setCell _ _ _ _ (s b r)⟩,k2⟩
end
theorem kB (w:World) (o:Obj) (k:Nat):(w.alloc o).heap[k]?=if k=w.heap.size then some o else w.heap[k]?:=by
 show (w.heap.push o)[k]?=_;rw [Array.getElem?_push]
theorem kV (w:World) (o:Obj) (k:Nat) (h:k=w.heap.size):(w.alloc o).heap[k]?=some o:=by rw [kB,if_pos h]
theorem yI {w:World} {k:Nat} {o:Obj} (h:w.heap[k]?=some o) (e:Obj):(w.alloc e).heap[k]?=some o:=by
 have t:=(Array.getElem?_eq_some_iff.1 h).1;rw [kB,if_neg (by omega)];exact h
/-- A block that is known whole. -/
structure Blk (w:World) (g:Nat) (e:TypeId) (cs:Array Value):Prop where
 heap:w.heap[g]?=some (.cells cs e (0,0))
theorem Blk.lt {w:World} {g:Nat} {e:TypeId} {cs:Array Value} (h:Blk w g e cs):g < w.heap.size:=(Array.getElem?_eq_some_iff.1 h.heap).1
theorem Blk.cell {w:World} {g:Nat} {e:TypeId} {cs:Array Value} (h:Blk w g e cs) (i:Nat):w.cell? ⟨g,i,none⟩=cs[i]?:=cell_of_row w g i cs e (0,0) h.heap
theorem Blk.frozen {w:World} {g:Nat} {e:TypeId} {cs:Array Value} (h:Blk w g e cs) (i:Nat):w.frozen? ⟨g,i,none⟩=false:=by simp [World.frozen?,h.heap]
theorem Blk.below {w w':World} {g B:Nat} {e:TypeId} {cs:Array Value} (h:Blk w g e cs) (t:Below B w w') (a:g < B):Blk w' g e cs:=⟨(t.block g a).trans h.heap⟩
theorem Blk.later {w w':World} {g:Nat} {e:TypeId} {cs:Array Value} (h:Blk w g e cs) (t:Below w.heap.size w w'):Blk w' g e cs:=h.below t h.lt
theorem Blk.now (w:World) (g:Nat) (e:TypeId) (cs:Array Value) (h:g=w.heap.size):Blk (w.alloc (.cells cs e)) g e cs:=⟨kV _ _ _ h⟩
theorem Blk.past {w:World} {g:Nat} {e:TypeId} {cs:Array Value} (h:Blk w g e cs) (o:Obj):Blk (w.alloc o) g e cs:=⟨yI h.heap o⟩
theorem Blk.drew {w:World} {g:Nat} {e:TypeId} {cs:Array Value} (h:Blk w g e cs):Blk w.drew g e cs:=⟨h.heap⟩
theorem Blk.far {w:World} {g:Nat} {e:TypeId} {cs:Array Value} (h:Blk w g e cs) (p:Addr) (u:Value) (t:g ≠ p.block):Blk (w.setCell p u) g e cs:=⟨(Below.heap_setCell w p u g t).trans h.heap⟩
theorem Blk.set_ {w:World} {g:Nat} {e:TypeId} {cs:Array Value} (h:Blk w g e cs) (i:Nat) (u:Value):Blk (w.setCell ⟨g,i,none⟩ u) g e (cs.setIfInBounds i u) :=
 ⟨by have:=h.heap;simp [World.setCell,Array.getElem?_modify,this]⟩
section
variable {P:Program} {fn:Func} {R:Ending → World → Prop} {a:Act} {w:World} {g:Nat} {e ty:TypeId} {cs:Array Value} {fs:Array Field} {p u:Tmp}
theorem df (w:World) (e:Addr):(asAddr (.pointer (some e))).run P w=.ok e w:=by simp [asAddr]
/-- A struct and a number are handed back. -/
theorem ret_cell_tmp (h:fn.results=#[.cell p ty,.tmp u]) (o:Blk w g e cs) (n:a.tmps.getD p undef=.pointer (some ⟨g,0,none⟩)) (s:P.underlying ty=some (.struct fs)) (hi:(P.info? ty).map (·.size)=some cs.size) (i:a.defers=[])
  (t:R (.returned (.tuple #[.agg cs,a.tmps.getD u undef])) w):bodyPost P fn R .ret a w:=by
 refine bodyPost_ret (v:=.tuple #[.agg cs,a.tmps.getD u undef]) ?_ i t;rw [results_cell_tmp h,n,df,Result.andThen_ok,run_loadVar_row w g e ty cs (0,0) (.struct fs) o.heap s rfl hi,Result.andThen_ok]
/-- A struct is handed back. -/
theorem ret_cell (h:fn.results=#[.cell p ty]) (i:Blk w g e cs) (s:a.tmps.getD p undef=.pointer (some ⟨g,0,none⟩)) (r:P.underlying ty=some (.struct fs)) (hi:(P.info? ty).map (·.size)=some cs.size) (n:a.defers=[])
  (o:R (.returned (.agg cs)) w):bodyPost P fn R .ret a w:=by
 refine bodyPost_ret (v:=.agg cs) ?_ n o;simp only [results,h];have t:a.tmps[p]?.getD undef=.pointer (some ⟨g,0,none⟩):=by simpa using s
 simp [Sem.run_bind,t,df,run_loadVar_row w g e ty cs (0,0) (.struct fs) i.heap r rfl hi,Result.andThen]
end
theorem gF (w:World) (p q:Addr) (u:Value) (h:q.block ≠ p.block):(w.setCell p u).cell? q=w.cell? q:=World.cell?_setCell_other w p q u (fun e=>h (by rw [e]))
/-- A literal of integers, wherever its block lies. -/
theorem Sl.lit {w:World} {g n t:Nat} {cs:Array Value} {e:TypeId} {o:Nat × Nat} {k:IntKind} {S:Nat → Prop} (l:List Int) (s:w.heap[g]?=some (.cells cs e o)) (a:cs.toList=l.map (Value.int k)) (r:∀ x ∈ l,InK k x) (i:S g)
  (c:n=l.length) (h:t=l.length) (d:l.length≤maxLen):Sl (ab k) w S (some ⟨g,0,none⟩) n t l:=by
 subst c h;refine Sl.of_block s i (Nat.le_refl _) d rfl ?_;rw [a,List.take_of_length_le (by simp [ab])];exact RowsOf.ints r
open Go
section
variable {P:Program} {ops:Array Oper} {Q:Exit → Act → World → Prop} {md:Region.Mode} {C:World → Prop} {k0:Nat}
def aS (P:Program) (md:Region.Mode) (ops:Array Oper) (Q:Exit → Act → World → Prop) (C:World → Prop) (k0:Nat):Nat → Array Bool → Act → World → Prop
 | 0,listed,a,w=>Region.ready md ops listed=[]∧Q .normal a w
 | fuel+1,listed,a,w =>
  (Region.ready md ops listed=[] → Q .normal a w) ∧
  ∀ i ∈ Region.ready md ops listed,wpOp P ops Q i (fun a' w'=>if i=k0 then wpAny P md ops Q fuel (listed.setIfInBounds i true) a' w' else C w'∧aS P md ops Q C k0 fuel (listed.setIfInBounds i true) a' w') a w
theorem jm:∀ (fuel:Nat) (t:Array Bool) (a:Act) (w:World),aS P md ops Q C k0 fuel t a w → wpAny P md ops Q fuel t a w
 | 0,_,_,_,h=>h
 | fuel+1,_,_,_,h=>⟨h.1,fun i hi=>wpOp_mono (fun n w' o=>by
   by_cases e:i=k0
   ·rw [if_pos e] at o;exact o
   ·rw [if_neg e] at o;exact jm fuel _ n w' o.2) (h.2 i hi)⟩
theorem uK {i:Nat} {z:Oper} {v:Value} (hi:ops[i]?=some z) (g:∀ (j:Nat) (o:Oper) cs b,ops[j]?=some o → o.op ≠ .select cs b)
  (X:∀ c a w,Q (.panic c) (a.put z.dst v) w → Q (.panic c) a w) (hw:Region.waitsFor md ops k0 i=true) (D:i ≠ k0) :
  ∀ (fuel:Nat) (t:Array Bool) (a:Act) (w:World),
   (∀ j q,ops[j]?=some q → j ≠ i → t.getD j true=false → (∀ e ∈ q.after,Region.binds md e=true → e.on ≠ i) → z.apart ops q=true) →
   i ∈ Region.ready md ops t → YieldsIf P ops C z v a → C w →
   aS P md ops Q C k0 fuel (t.setIfInBounds i true) (a.put z.dst v) w → aS P md ops Q C k0 (fuel+1) t a w:=by
 obtain ⟨T,E,V,M,L,S⟩:=Region.waitsFor_spec hw;intro fuel
 induction fuel with
 | zero =>
  intro t a w _ x J A H;refine ⟨fun h=>(by rw [h] at x;cases x),fun j I=>?_⟩;by_cases s:j=i
  ·subst s;rw [show (fun n w'=>if j=k0 then wpAny P md ops Q 0 (t.setIfInBounds j true) n w' else C w'∧aS P md ops Q C k0 0 (t.setIfInBounds j true) n w')=(fun n w'=>C w'∧aS P md ops Q C k0 0 (t.setIfInBounds j true) n w') from by funext n w';rw [if_neg D]];exact J.wpOp hi A ⟨A,H⟩
  ·have:=ready_mono I s;rw [H.1] at this;cases this
 | succ fuel ih =>
  intro t a w r x J A H;refine ⟨fun h=>(by rw [h] at x;cases x),fun j I=>?_⟩;by_cases s:j=i
  ·subst s;rw [show (fun n w'=>if j=k0 then wpAny P md ops Q (fuel+1) (t.setIfInBounds j true) n w' else C w'∧aS P md ops Q C k0 (fuel+1) (t.setIfInBounds j true) n w')=(fun n w'=>C w'∧aS P md ops Q C k0 (fuel+1) (t.setIfInBounds j true) n w') from by funext n w';rw [if_neg D]];exact J.wpOp hi A ⟨A,H⟩
  ·obtain ⟨y,q,m,B⟩:=mem_ready.1 I;have p:∀ e ∈ q.after,Region.binds md e=true → e.on ≠ i:=fun e Z Y N=>by
    have f:=B e Z Y;have U:=(mem_ready.1 x).1;rw [N] at f;rcases Nat.lt_or_ge i t.size with K|K
    ·simp [K] at U f;rw [U] at f;cases f
    ·simp [Array.getElem?_eq_none K] at f
   have d:j ≠ k0:=fun e=>by
    subst e;have:T=q:=Option.some.inj (E.symm.trans m);subst this;exact p V M L S
   have f:=H.2 j (ready_mono I s);rw [show (fun n w'=>if j=k0 then wpAny P md ops Q fuel ((t.setIfInBounds i true).setIfInBounds j true) n w' else C w'∧aS P md ops Q C k0 fuel ((t.setIfInBounds i true).setIfInBounds j true) n w')=(fun n w'=>C w'∧aS P md ops Q C k0 fuel ((t.setIfInBounds i true).setIfInBounds j true) n w') from by funext n w';rw [if_neg d]] at f;rw [show (fun n w'=>if j=k0 then wpAny P md ops Q (fuel+1) (t.setIfInBounds j true) n w' else C w'∧aS P md ops Q C k0 (fuel+1) (t.setIfInBounds j true) n w')=(fun n w'=>C w'∧aS P md ops Q C k0 (fuel+1) (t.setIfInBounds j true) n w') from by funext n w';rw [if_neg d]];have W:=wpOp_putIf m (r j q m s y p) (fun cs b=>g i z cs b hi) (fun cs b=>g j q cs b m) X J f;have l:∀ k ok,ops[k]?=some ok → k ≠ i → (t.setIfInBounds j true).getD k true=false →
     (∀ e ∈ ok.after,Region.binds md e=true → e.on ≠ i) → z.apart ops ok=true:=fun k ok hk O F R=>by
    refine r k ok hk O ?_ R;by_cases d:j=k
    ·subst d;exact y
    ·rw [getD_set_ne true d] at F;exact F
   refine wpOp_mono (fun n w' G=>⟨G.2.1,ih (t.setIfInBounds j true) n w' l (ready_mono x (Ne.symm s)) G.1 G.2.1 ?_⟩) W;rw [Array.setIfInBounds_comm _ _ s];exact G.2.2
/-- Take number i first: k0 waits for it, and it yields v in every world that meets C. -/
theorem wpAnyT_take {i:Nat} {t:Oper} {v:Value} {fuel:Nat} {e:Array Bool} {a:Act} {w:World} (hi:ops[i]?=some t)
  (l:Region.noSelect ops=true) (r:Region.free md ops e i=true) (d:(Region.ready md ops e).contains i=true) (m:Region.waitsFor md ops k0 i=true) (o:(i == k0)=false)
  (n:∀ c a w,Q (.panic c) (a.put t.dst v) w → Q (.panic c) a w) (f:YieldsIf P ops C t v a) (s:C w)
  (h:aS P md ops Q C k0 fuel (e.setIfInBounds i true) (a.put t.dst v) w):aS P md ops Q C k0 (fuel+1) e a w :=
 uK hi (Region.noSelect_spec l) n m (by simpa using o) fuel e a w (Region.free_spec hi r) (by simpa using d) f s h
/-- Number i, not the tail's, is the only one that may come up: behind it C is shown anew. -/
theorem wpAnyT_one {i:Nat} {o:Oper} {fuel:Nat} {e:Array Bool} {a:Act} {w:World} (l:Region.ready md ops e=[i]) (n:(i == k0)=false) (f:ops[i]?=some o)
  (h:∀ t:Act → World → Prop,Shut (∀ a w,C w → (C w → aS P md ops Q C k0 fuel (e.setIfInBounds i true) a w) → t a w) → if Region.wanted o (yielded ops a.tmps)=true then Oper.wp P o a w t Q else t (a.put o.dst undef) w) :
  aS P md ops Q C k0 (fuel+1) e a w:=by
 refine ⟨fun s=>(by rw [l] at s;cases s),fun j d=>?_⟩;rw [l] at d;obtain rfl:j=i:=by simpa using d
 refine wpOp_step f (fun t c=>h t (fun a w r m=>c a w ?_));rw [if_neg (by simpa using n)];exact ⟨r,m r⟩
/-- The tail: its operations come one behind the other. -/
theorem wpAnyT_tail {l:List Oper} {fuel:Nat} {e:Array Bool} {a:Act} {w:World} (t:List Oper) (o:Oper) (f:(l.drop k0)=o :: t) (m:fuel=t.length+1) (n:Region.seqB md l.toArray fuel k0 e=true)
  (h:wpList P l.toArray Q (o :: t) a w):aS P md l.toArray Q C k0 fuel e a w:=by
 subst m;have H:=wpAny_of_seq (md:=md) (o :: t) k0 e a w (fun j=>by rw [← f];simp [List.getElem?_drop]) n h;have d:Region.ready md l.toArray e=[k0]:=by
  simp only [Region.seqB,Bool.and_eq_true,decide_eq_true_eq] at n;exact n.1
 refine ⟨fun s=>(by rw [d] at s;cases s),fun j r=>?_⟩;have i:=r;rw [d] at i;obtain rfl:j=k0:=by simpa using i
 refine wpOp_mono (fun y w' c=>?_) (H.2 j r);rw [if_pos rfl];exact c
theorem aP {o:Nat} {a:Act} {w:World} (C:World → Prop) (k0:Nat) (t:P.follows .mixedOrders=true) (e:C w.drew)
  (h:C w.drew → aS P .any ops Q C k0 ops.size (Array.replicate ops.size false) a w.drew):(Code.region o ops true).wp P Q a w :=
 wp_region_any t (jm _ _ _ _ (h e))
/-- The same, behind operations that were taken first. -/
theorem wpAny_enterT {fuel:Nat} {e:Array Bool} {a:Act} {w:World} (C:World → Prop) (k0:Nat) (t:C w) (h:C w → aS P md ops Q C k0 fuel e a w):wpAny P md ops Q fuel e a w :=
 jm _ _ _ _ (h t)
end
def lj (cs:Array Value):Nat → List Value → Array Value
 | _,[]=>cs
 | o,v :: r=>lj (cs.setIfInBounds o v) (o+1) r
theorem lZ:∀ (vs:List Value) (o:Nat) (cs:Array Value) (i:Nat),(lj cs o vs)[i]?=if o≤i∧i < o+vs.length∧i < cs.size then vs[i - o]? else cs[i]?
 | [],o,cs,i=>by rw [if_neg (show ¬ (o≤i∧i < o+([]:List Value).length∧i < cs.size) by simp;omega)];rfl
 | v :: r,o,cs,i=>by
  unfold lj;rw [lZ r (o+1),Array.getElem?_setIfInBounds];simp only [Array.size_setIfInBounds,List.length_cons];by_cases a:i=o
  ·subst a;rw [if_neg (by omega),if_pos rfl];by_cases t:i < cs.size
   ·rw [if_pos t,if_pos (by omega)];simp
   ·rw [if_neg t,if_neg (by omega)];simp;omega
  ·by_cases t:o≤i∧i < o+(r.length+1)∧i < cs.size
   ·rw [if_pos (show o+1≤i∧i < o+1+r.length∧i < cs.size by omega),if_pos t,show i - o=(i - (o+1))+1 by omega,List.getElem?_cons_succ]
   ·rw [if_neg (show ¬ (o+1≤i∧i < o+1+r.length∧i < cs.size) by omega),if_neg (show ¬ o=i from fun e=>a e.symm),if_neg t]
theorem jj {vs:List Value} {o:Nat} {cs cs':Array Value} (h:o+vs.length≤cs.size) (e:cs'.toList=cs.toList.take o ++ vs ++ cs.toList.drop (o+vs.length)):lj cs o vs=cs':=by
 apply Array.ext_getElem?;intro i;rw [lZ,← Array.getElem?_toList (xs:=cs'),e];by_cases t:i < o
 ·rw [if_neg (by omega),List.append_assoc,List.getElem?_append_left (by simp;omega),List.getElem?_take,if_pos t];simp
 ·by_cases a:i < o+vs.length
  ·rw [if_pos (by omega),List.append_assoc,List.getElem?_append_right (by simp;omega),List.getElem?_append_left (by simp;omega)];congr 1;simp;omega
  ·rw [if_neg (by omega),List.getElem?_append_right (by simp;omega),List.getElem?_drop,← Array.getElem?_toList];congr 1;simp;omega
theorem xE {vs cs:Array Value} (h:cs.size=vs.size):lj cs 0 vs.toList=vs:=by
 apply Array.ext_getElem?;intro i;rw [lZ];by_cases hi:i < vs.size
 ·rw [if_pos (by simp;omega)];simp
 ·rw [if_neg (by simp;omega),Array.getElem?_eq_none (by omega),Array.getElem?_eq_none (by omega)]
theorem Blk.setCells {g:Nat} {e:TypeId}:∀ (vs:List Value) (o:Nat) (w:World) (cs:Array Value),Blk w g e cs → Blk (w.setCells g o vs) g e (lj cs o vs)
 | [],_,_,_,h=>h
 | v :: r,o,w,cs,h=>Blk.setCells r (o+1) _ _ (h.set_ o v)
theorem eO {g:Nat}:∀ (vs:List Value) (o:Nat) (w:World),w.grownBy (w.setCells g o vs) (some g)
 | [],_,w=>⟨rfl,rfl,rfl,Nat.le_refl _,fun _ _ _=>rfl⟩
 | v :: r,o,w=>by
  have a:w.grownBy (w.setCell ⟨g,o,none⟩ v) (some g) :=
   have n:Below 0 w (w.setCell ⟨g,o,none⟩ v):=(Below.refl 0 w).setCell (Nat.zero_le _) v
   ⟨n.os,n.tape,n.output,n.size,fun k s t=>Below.heap_setCell w ⟨g,o,none⟩ v k (fun e=>t (by rw [e]))⟩
  have i:=eO (g:=g) r (o+1) (w.setCell ⟨g,o,none⟩ v);exact ⟨i.os.trans a.os,i.tape.trans a.tape,i.output.trans a.output,Nat.le_trans a.size i.size,fun k s t=>(i.block k (Nat.lt_of_lt_of_le s a.size) t).trans (a.block k s t)⟩
section
variable {P:Program} {ops:Array Oper} {rest:List Oper} {op:Oper} {a:Act} {w:World} {Q:Exit → Act → World → Prop}
/-- A part of a block is stored. -/
theorem wpList_store_blk (s:op.guard=none) (r:TypeId) (x y:Operand) (l:op.op=.store r x y) (g off:Nat) (vs:Array Value) (c:a.eval x=.pointer (some ⟨g,off,none⟩)) (m:a.eval y=.agg vs)
  (e:TypeId) (cs cs':Array Value) (n:Blk w g e cs) (i:off+vs.size≤cs.size) (hi:(P.info? r).map (·.size)=some vs.size) (d:vs.all (·.oneCell')=true) (t:cs'.toList=cs.toList.take off ++ vs.toList ++ cs.toList.drop (off+vs.size))
  (h:∀ w',Blk w' g e cs' → w.grownBy w' (some g) → wpList P ops Q rest (a.put op.dst undef) w'):wpList P ops Q (op :: rest) a w:=by
 have t:=jj (vs:=vs.toList) (o:=off) (cs:=cs) (cs':=cs') (by simpa using i) (by simpa using t);subst t;refine wpList_store_mid s r x y l g off vs c m (fun j f=>⟨?_,n.frozen _⟩) hi d (h _ (Blk.setCells _ _ _ _ n) (eO _ _ _));rw [n.cell];simp;omega
/-- The same, bY a region that draws its order. -/
theorem oper_store_blk {K:Act → World → Prop} (s:TypeId) (x y:Operand) (d:op.op=.store s x y) (g off:Nat) (vs:Array Value) (l:a.eval x=.pointer (some ⟨g,off,none⟩)) (c:a.eval y=.agg vs)
  (e:TypeId) (cs cs':Array Value) (n:Blk w g e cs) (i:off+vs.size≤cs.size) (hi:(P.info? s).map (·.size)=some vs.size) (r:vs.all (·.oneCell')=true) (t:cs'.toList=cs.toList.take off ++ vs.toList ++ cs.toList.drop (off+vs.size))
  (h:∀ w',Blk w' g e cs' → w.grownBy w' (some g) → K (a.put op.dst undef) w'):op.wp P a w K Q:=by
 have t:=jj (vs:=vs.toList) (o:=off) (cs:=cs) (cs':=cs') (by simpa using i) (by simpa using t);subst t;refine wp_store_mid s x y d g off vs l c (fun j m=>⟨?_,n.frozen _⟩) hi r (h _ (Blk.setCells _ _ _ _ n) (eO _ _ _));rw [n.cell];simp;omega
/-- The whole of a block is stored. -/
theorem wpList_store_all (o:op.guard=none) (i:TypeId) (x y:Operand) (r:op.op=.store i x y) (g:Nat) (vs:Array Value) (d:a.eval x=.pointer (some ⟨g,0,none⟩)) (l:a.eval y=.agg vs)
  (e:TypeId) (cs:Array Value) (s:Blk w g e cs) (t:cs.size=vs.size) (hi:(P.info? i).map (·.size)=some vs.size) (n:vs.all (·.oneCell')=true)
  (h:∀ w',Blk w' g e vs → w.grownBy w' (some g) → wpList P ops Q rest (a.put op.dst undef) w'):wpList P ops Q (op :: rest) a w :=
 wpList_store_blk o i x y r g 0 vs d l e cs vs s (by omega) hi n (by simp [t]) h
/-- A part of a block is loaded. -/
theorem wpList_load_blk (i:op.guard=none) (o:TypeId) (x:Operand) (l:op.op=.load o x) (g off:Nat) (m:a.eval x=.pointer (some ⟨g,off,none⟩)) (e:TypeId) (cs vs:Array Value) (d:TypeDesc) (s:Blk w g e cs)
  (c:P.underlying o=some d) (r:d.isRow=true) (hi:(P.info? o).map (·.size)=some vs.size) (n:(cs.toList.drop off).take vs.size=vs.toList)
  (h:wpList P ops Q rest (a.put op.dst (.agg vs)) w):wpList P ops Q (op :: rest) a w:=by
 refine wpList_load_mid i o x l g off m vs.toList d (fun j v t=>?_) c r (by simpa using hi) (by simpa using h);rw [s.cell];rw [← n,List.getElem?_take] at t;split at t
 ·rw [List.getElem?_drop] at t;simpa using t
 ·cases t
/-- In a region that draws its order: the load of a part of a block may be taken first where the condition gives the block. -/
theorem yieldsIf_load_blk {S:World → Prop} (c:Region.wanted op (yielded ops a.tmps)=true) (o:TypeId) (x:Operand) (h:op.op=.load o x) (g off:Nat) (m:a.eval x=.pointer (some ⟨g,off,none⟩)) (e:TypeId) (cs vs:Array Value) (d:TypeDesc)
  (n:∀ w,S w → Blk w g e cs) (l:P.underlying o=some d) (s:d.isRow=true) (hi:(P.info? o).map (·.size)=some vs.size) (i:(cs.toList.drop off).take vs.size=vs.toList):YieldsIf P ops S op (.agg vs) a:=by
 have:=yieldsIf_load_mid (P:=P) (ops:=ops) (S:=S) (op:=op) (a:=a) c o x h g off m vs.toList d (fun w r j v t=>by
  rw [(n w r).cell];rw [← i,List.getElem?_take] at t;split at t
  ·rw [List.getElem?_drop] at t;simpa using t
  ·cases t) l s (by simpa using hi)
 simpa using this
end
theorem _root_.Go.RowKit.Hid.o {p:Prop} (h:Hid p):p:=h.out
theorem zH {p:Prop} (h:p):Hid p:=Lib.hid h
theorem pX:(∀ (a:Act) (d:Tmp) (v:Value),a.put (some d) v={ a with tmps:=a.tmps.setIfInBounds d v })∧(∀ (a:Act) (v:Value),a.put none v=a)∧(∀ (α:Type) (l:List α) (i:Nat) (h:i < l.toArray.size),l.toArray[i]=l[i]'(by simpa using h)) ∧
  (∀ (α:Type) (a:α) (l:List α) (i:Nat) (h:i+1 < (a :: l).length),(a :: l)[i+1]=l[i]'(by simpa using h))∧(∀ (α:Type) (a:α) (l:List α) (h:0 < (a :: l).length),(a :: l)[0]=a) ∧
  (∀ (α:Type) (l:List α) (i:Nat) (a:α),l.toArray.setIfInBounds i a=(l.set i a).toArray)∧(∀ (α:Type) (a b:α) (l:List α),(a :: l).set 0 b=b :: l)∧(∀ (α:Type) (a b:α) (l:List α) (i:Nat),(a :: l).set (i+1) b=a :: l.set i b) :=
 ⟨fun _ _ _=>rfl,fun _ _=>rfl,fun _ _ _ _=>rfl,fun _ _ _ _ _=>rfl,fun _ _ _ _=>rfl,fun _ _ _ _=>by simp,fun _ _ _ _=>rfl,fun _ _ _ _ _=>rfl⟩
theorem gX:(∀ (α:Type) (l:List α) (i:Nat),l.toArray[i]?=l[i]?)∧(∀ (α:Type) (a:α) (l:List α) (i:Nat),(a :: l)[i+1]?=l[i]?)∧(∀ (α:Type) (a:α) (l:List α),(a :: l)[0]?=some a) :=
 ⟨fun _ _ _=>by simp,fun _ _ _ _=>by simp,fun _ _ _=>by simp⟩
/-- A node's cells. -/
abbrev nN (a b c d e f g h i:Int) (W:Option Addr) (m n:Nat) (B:Option Addr) (p q:Nat) (r s t u v w x y:Int):Array Value:=#[.int .i64 a,.int .i64 b,.int .i64 c,.int .i64 d,.int .i64 e,.int .i64 f,.int .i64 g,.int .i8 h,.int .i8 i,.slice W m n,.slice B p q,.int .i32 r,.int .i64 s,.int .i8 t,.int .i32 u,.int .i64 v,.int .i8 w,.int .i8 x,.int .i8 y]
abbrev tN (a b c:Int) (A:Option Addr) (m n:Nat):Array Value:=#[.int .i64 a,.int .i64 b,.int .i64 c,.slice A m n]
abbrev sN (a b c:Int):Array Value:=#[.int .i64 a,.int .i64 b,.int .i64 c]
theorem rC {P:Program} {o:Func} {R:Ending → World → Prop} {a:Act} {w:World} {p u:Nat} {t:TypeId} {g:Nat} {e:TypeId} {cs:Array Value} {i:Array Field} (s:Blk w g e cs) (l:P.underlying t=some (.struct i)) (n:R (.returned (.tuple #[.agg cs,a.tmps.getD u undef])) w)
  (h:o.results=#[.cell p t,.tmp u]:=by rfl) (d:a.tmps.getD p undef=.pointer (some ⟨g,0,none⟩):=by rfl) (hi:(P.info? t).map (·.size)=some cs.size:=by kernel_rfl) (r:a.defers=[]:=by rfl):bodyPost P o R .ret a w:=ret_cell_tmp h s d l hi r n
/-- A block laid next, its world under a name. -/
theorem nB (w:World) (cs:Array Value) (e:TypeId):∃ w',w.alloc (.cells cs e)=w'∧Hid (Blk w' w.heap.size e cs)∧Below w.heap.size w w':=⟨_,rfl,Lib.hid (Blk.now _ _ _ _ rfl),(Below.refl _ _).alloc (Nat.le_refl _) _⟩
section
variable {P:Program} {ops:Array Oper} {Q:Exit → Act → World → Prop} {md:Region.Mode} {C S:World → Prop} {k0:Nat}
theorem tkT (i:Nat) {t:Oper} (hi:ops[i]?=some t) {v:Value} {fuel:Nat} {e:Array Bool} {a:Act} {w:World} (f:YieldsIf P ops C t v a) (s:C w)
  (h:aS P md ops Q C k0 fuel (e.setIfInBounds i true) (a.put t.dst v) w)
  (l:Region.noSelect ops=true:=by as_aux_lemma=>kernel_rfl) (r:Region.free md ops e i=true:=by as_aux_lemma=>kernel_rfl) (d:(Region.ready md ops e).contains i=true:=by as_aux_lemma=>kernel_rfl) (m:Region.waitsFor md ops k0 i=true:=by as_aux_lemma=>kernel_rfl) (o:(i == k0)=false:=by rfl)
  (n:∀ c a w,Q (.panic c) (a.put t.dst v) w → Q (.panic c) a w:=by exact fun _ _ _ h=>h):aS P md ops Q C k0 (fuel+1) e a w:=wpAnyT_take hi l r d m o n f s h
theorem tkH (i:Nat) {t:Oper} (hi:ops[i]?=some t) {v:Value} {fuel:Nat} {e:Array Bool} {a:Act} {w:World} (l:YieldsIf P ops S t v a) (n:S w)
  (h:wpAnyH P md ops Q S fuel (e.setIfInBounds i true) (a.put t.dst v) w)
  (d:Region.noSelect ops=true:=by as_aux_lemma=>kernel_rfl) (s:Region.free md ops e i=true:=by as_aux_lemma=>kernel_rfl) (r:(Region.ready md ops e).contains i=true:=by as_aux_lemma=>kernel_rfl)
  (o:∀ c a w,Q (.panic c) (a.put t.dst v) w → Q (.panic c) a w:=by exact fun _ _ _ h=>h):wpAnyH P md ops Q S (fuel+1) e a w:=wpAnyH_take hi d s r o l n h
theorem kH (i:Nat) {t:Oper} (hi:ops[i]?=some t) {v:Value} {fuel:Nat} {e:Array Bool} {a:Act} {w:World} (s:S w) (h:wpAnyH P md ops Q S fuel (e.setIfInBounds i true) (a.put t.dst v) w)
  (m:YieldsIf P ops S t v a:=by exact Or.inl ⟨by rfl,by (intro w o;(try dsimp only at o);go_simp;try with_reducible rfl)⟩)
  (l:Region.noSelect ops=true:=by as_aux_lemma=>kernel_rfl) (r:Region.free md ops e i=true:=by as_aux_lemma=>kernel_rfl) (d:(Region.ready md ops e).contains i=true:=by as_aux_lemma=>kernel_rfl)
  (n:∀ c a w,Q (.panic c) (a.put t.dst v) w → Q (.panic c) a w:=by exact fun _ _ _ h=>h):wpAnyH P md ops Q S (fuel+1) e a w:=wpAnyH_take hi l r d n m s h
theorem kT (i:Nat) {t:Oper} (hi:ops[i]?=some t) {v:Value} {fuel:Nat} {e:Array Bool} {a:Act} {w:World} (r:C w) (h:aS P md ops Q C k0 fuel (e.setIfInBounds i true) (a.put t.dst v) w)
  (y:YieldsIf P ops C t v a:=by exact Or.inl ⟨by rfl,by (intro w o;(try dsimp only at o);go_simp;try with_reducible rfl)⟩)
  (m:Region.noSelect ops=true:=by as_aux_lemma=>kernel_rfl) (d:Region.free md ops e i=true:=by as_aux_lemma=>kernel_rfl) (l:(Region.ready md ops e).contains i=true:=by as_aux_lemma=>kernel_rfl) (f:Region.waitsFor md ops k0 i=true:=by as_aux_lemma=>kernel_rfl) (n:(i == k0)=false:=by rfl)
  (s:∀ c a w,Q (.panic c) (a.put t.dst v) w → Q (.panic c) a w:=by exact fun _ _ _ h=>h):aS P md ops Q C k0 (fuel+1) e a w:=wpAnyT_take hi m d l f n s y r h
theorem rH (i:Nat) {o:Oper} (n:ops[i]?=some o) {fuel:Nat} {e:Array Bool} {a:Act} {w:World}
  (h:∀ t:Act → World → Prop,Shut (∀ a w,S w → (S w → wpAnyH P md ops Q S fuel (e.setIfInBounds i true) a w) → t a w) → if Region.wanted o (yielded ops a.tmps)=true then Oper.wp P o a w t Q else t (a.put o.dst undef) w)
  (s:Region.ready md ops e=[i]:=by kernel_rfl):wpAnyH P md ops Q S (fuel+1) e a w:=wpAnyH_ready s (by simp) (AllReadyH.cons n h AllReadyH.nil)
end
section
variable {P:Program} {ops:Array Oper} {rest:List Oper} {op:Oper} {a:Act} {w:World} {Q:Exit → Act → World → Prop}
theorem lB (t:TypeId) (x:Operand) (g:Nat) {e:TypeId} {cs:Array Value} {d:TypeDesc} (i:Blk w g e cs) (r:P.underlying t=some d) (h:wpList P ops Q rest (a.put op.dst (.agg cs)) w)
  (o:op.guard=none:=by rfl) (s:op.op=.load t x:=by rfl) (l:a.eval x=.pointer (some ⟨g,0,none⟩):=by rfl) (n:d.isRow=true:=by rfl) (hi:(P.info? t).map (·.size)=some cs.size:=by kernel_rfl):wpList P ops Q (op :: rest) a w :=
 wpList_load_blk o t x s g 0 l e cs cs d i r n hi (by rw [List.drop_zero,List.take_of_length_le (by simp)]) h
theorem sB (o:TypeId) (x y:Operand) (g:Nat) (vs:Array Value) {e:TypeId} {cs:Array Value} (n:Blk w g e cs) (h:∀ w',Blk w' g e vs → w.grownBy w' (some g) → wpList P ops Q rest (a.put op.dst undef) w')
  (t:op.guard=none:=by rfl) (r:op.op=.store o x y:=by rfl) (d:a.eval x=.pointer (some ⟨g,0,none⟩):=by rfl) (l:a.eval y=.agg vs:=by rfl) (s:cs.size=vs.size:=by rfl) (hi:(P.info? o).map (·.size)=some vs.size:=by kernel_rfl) (i:vs.all (·.oneCell')=true:=by rw [← Array.all_toList];rfl):wpList P ops Q (op :: rest) a w :=
 wpList_store_all t o x y r g vs d l e cs n s hi i h
theorem yB {S:World → Prop} (t:TypeId) (x:Operand) (g:Nat) {e:TypeId} {cs:Array Value} {d:TypeDesc} (o:∀ w,S w → Blk w g e cs) (s:P.underlying t=some d)
  (h:Region.wanted op (yielded ops a.tmps)=true:=by rfl) (n:op.op=.load t x:=by rfl) (r:a.eval x=.pointer (some ⟨g,0,none⟩):=by rfl) (i:d.isRow=true:=by rfl) (hi:(P.info? t).map (·.size)=some cs.size:=by kernel_rfl):YieldsIf P ops S op (.agg cs) a :=
 yieldsIf_load_blk h t x n g 0 r e cs cs d o s i hi (by rw [List.drop_zero,List.take_of_length_le (by simp)])
end
/-- The worlds in which all that lies in w0 is as it was. -/
def Ext (w0:World):Type:={ w:World // Below w0.heap.size w0 w }
def Ext.here (w0:World):Ext w0:=⟨w0,Below.refl _ _⟩
instance (w0:World):Nonempty (Ext w0):=⟨Ext.here w0⟩
section
variable {P:Program} {w0:World}
theorem am {n:Nat} {Q:Exit → Act → World → Prop} {a:Act} {w:World} {l:List Oper} (w0:World) (i:P.follows .mixedOrders=true) (o:Region.lexB .any l.toArray=true) (t:Below w0.heap.size w0 w)
  (h:wpQuiet P l.toArray (fun w'=>∃ x:Ext w0,w'=x.1) (fun e=>∀ w',(∃ x:Ext w0,w'=x.1) → Q .normal e w') l a):(Code.region n l.toArray true).wp P Q a w :=
 wp_region_quiet (C:=fun w'=>∃ x:Ext w0,w'=x.1) i o ⟨⟨w.drew,t.drew⟩,rfl⟩ (by simpa using h)
theorem aB {f:FuncId} {t:Array Value} {v:Value} (x:Ext w0) (h:Calls P f t x.1 fun e w'=>e=.returned v∧Below x.1.heap.size x.1 w') :
  Calls P f t x.1 fun e a=>e=.returned v∧∃ y:Ext w0,a=y.1 :=
 h.mono fun e w' ⟨i,o⟩=>⟨i,⟨w',x.2.trans (o.mono x.2.size)⟩,rfl⟩
theorem gH {p:Addr} {v:Value} (h:w0.cell? p=some v) (x:Ext w0):x.1.cell? p=some v:=(x.2.cell (World.block_lt_of_cell? w0 _ h)).trans h
theorem Blk.ext {g:Nat} {e:TypeId} {cs:Array Value} (h:Blk w0 g e cs) (x:Ext w0):Blk x.1 g e cs:=h.later x.2
end
theorem Sl.fut {α:Type} {t:Ty α} {w w':World} {A:Option Addr} {n e:Nat} {l:List α} (h:Sl t w (blo w.heap.size) A n e l) (a:Below w.heap.size w w'):Sl t w' (blo w'.heap.size) A n e l:=h.later a (Nat.le_refl _)
/-- What has been since the call began. -/
structure Far (w0 w:World):Prop where
 out:Below w0.heap.size w0 w
theorem Far.refl (w:World):Far w w:=⟨Below.refl _ _⟩
theorem Far.fut {w0 w w':World} (h:Far w0 w) (e:Below w.heap.size w w'):Far w0 w':=⟨aa e h.out⟩
theorem Far.size {w0 w:World} (h:Far w0 w):w0.heap.size≤w.heap.size:=h.out.size
theorem Far.drewN {w0 w:World} (h:Far w0 w) (n:Nat):Far w0 (w.drewN n):=⟨aI h.out n⟩
theorem Blk.fut {w w':World} {g:Nat} {e:TypeId} {cs:Array Value} (h:Blk w g e cs) (t:Below w.heap.size w w'):Blk w' g e cs:=h.later t
theorem Sl.old {α:Type} {t:Ty α} {w:World} {m:Nat} {A:Option Addr} {n e:Nat} {l:List α} (h:Sl t w (bin m w.heap.size) A n e l):Sl t w (blo w.heap.size) A n e l:=h.more pN
/-- A result in new memory, seen from where the call began. -/
theorem Sl.since {α:Type} {t:Ty α} {w0 w w':World} {A:Option Addr} {n e:Nat} {l:List α} (h:Sl t w' (bin w.heap.size w'.heap.size) A n e l) (a:Far w0 w):Sl t w' (bin w0.heap.size w'.heap.size) A n e l:=h.more (aW a.size (Nat.le_refl _))
/-- A slice of new memory stays one of new memory. -/
structure New (w0:World) {α:Type} (t:Ty α) (w:World) (A:Option Addr) (n cap:Nat) (l:List α):Prop where
 out:Sl t w (bin w0.heap.size w.heap.size) A n cap l
theorem New.fut {w0:World} {α:Type} {t:Ty α} {w w':World} {A:Option Addr} {n e:Nat} {l:List α} (h:New w0 t w A n e l) (a:Below w.heap.size w w'):New w0 t w' A n e l :=
 ⟨(h.out.below a fun _ k=>k.2).more (aW (Nat.le_refl _) a.size)⟩
theorem New.old {w0:World} {α:Type} {t:Ty α} {w:World} {A:Option Addr} {n e:Nat} {l:List α} (h:New w0 t w A n e l):Sl t w (blo w.heap.size) A n e l:=h.out.old
theorem New.set {w0:World} {α:Type} {t:Ty α} {w:World} {A:Option Addr} {n e:Nat} {l:List α} (h:New w0 t w A n e l) (p:Addr) (u:Value) (o:p.block < w0.heap.size):New w0 t (w.setCell p u) A n e l :=
 ⟨(h.out.keep fun b a=>Below.heap_setCell w p u b (by have:=a.1;omega)).more fun b a=>⟨a.1,by simpa using a.2⟩⟩
theorem Far.set {w0 w:World} (h:Far w0 w) (p:Addr) (u:Value) (e:w0.heap.size≤p.block):Far w0 (w.setCell p u):=⟨h.out.setCell e _⟩
theorem Far.trans {w0 e t:World} (h:Far w0 e) (a:Far e t):Far w0 t:=⟨aa a.out h.out⟩
theorem New.since {w0 a:World} {α:Type} {t:Ty α} {w:World} {A:Option Addr} {n e:Nat} {l:List α} (h:New a t w A n e l) (o:Far w0 a):Sl t w (bin w0.heap.size w.heap.size) A n e l:=h.out.more (aW o.size (Nat.le_refl _))
theorem New.of {w0 w w':World} {α:Type} {t:Ty α} {A:Option Addr} {n e:Nat} {l:List α} (h:Sl t w' (bin w.heap.size w'.heap.size) A n e l) (a:Far w0 w):New w0 t w' A n e l:=⟨h.since a⟩
theorem New.nil (w0:World) {α:Type} (t:Ty α) (w:World):New w0 t w none 0 0 ([]:List α):=⟨Sl.nil _ _ _⟩
theorem Blk.away {w w':World} {g m:Nat} {e:TypeId} {cs:Array Value} (h:Blk w g e cs) (t:w.grownBy w' (some m)) (a:g < m ∨ m < g):Blk w' g e cs :=
 ⟨(t.block g h.lt (fun e=>by have:=Option.some.inj e;omega)).trans h.heap⟩
theorem Far.away {w0 w w':World} {m:Nat} (h:Far w0 w) (e:w.grownBy w' (some m)) (a:w0.heap.size≤m):Far w0 w' :=
 ⟨h.out.grown e h.out.size (fun k t=>by have:=Option.some.inj t;omega)⟩
theorem New.away {w0:World} {α:Type} {t:Ty α} {w w':World} {A:Option Addr} {n a m:Nat} {l:List α} (h:New w0 t w A n a l) (i:w.grownBy w' (some m)) (s:m < w0.heap.size):New w0 t w' A n a l :=
 ⟨(h.out.keep fun b o=>i.block b o.2 (fun e=>by have:=Option.some.inj e;have:=o.1;omega)).more fun b o=>⟨o.1,Nat.lt_of_lt_of_le o.2 i.size⟩⟩
theorem Sl.away {α:Type} {t:Ty α} {w w':World} {o m:Nat} {A:Option Addr} {n a:Nat} {l:List α} (h:Sl t w (blo o) A n a l) (s:w.grownBy w' (some m)) (d:o≤m) (r:o≤w.heap.size):Sl t w' (blo o) A n a l :=
 h.keep fun b i=>s.block b (Nat.lt_of_lt_of_le i r) (fun e=>by have:=Option.some.inj e;have:b < o:=i;omega)
/-- A slice of what was there when the call began. -/
structure Old (w0:World) {α:Type} (t:Ty α) (w:World) (A:Option Addr) (n cap:Nat) (l:List α):Prop where
 out:Sl t w (blo w0.heap.size) A n cap l
 le:w0.heap.size≤w.heap.size
section
variable {w0 w w':World} {α:Type} {t:Ty α} {A:Option Addr} {n cap m:Nat} {l:List α}
theorem Old.now (h:Sl t w (blo w.heap.size) A n cap l):Old w t w A n cap l:=⟨h,Nat.le_refl _⟩
theorem Old.fut (h:Old w0 t w A n cap l) (e:Below w.heap.size w w'):Old w0 t w' A n cap l:=⟨h.out.below e (fun b e=>Nat.lt_of_lt_of_le e h.le),Nat.le_trans h.le e.size⟩
theorem Old.away (h:Old w0 t w A n cap l) (o:w.grownBy w' (some m)) (i:w0.heap.size≤m):Old w0 t w' A n cap l :=
 ⟨h.out.keep fun b a=>o.block b (Nat.lt_of_lt_of_le a h.le) (fun e=>by have:=Option.some.inj e;have:b < w0.heap.size:=a;omega),Nat.le_trans h.le o.size⟩
theorem Old.all (h:Old w0 t w A n cap l):Sl t w (blo w.heap.size) A n cap l:=h.out.more (dV h.le)
theorem Old.draw (h:Old w0 t w A n cap l):Old w0 t w.drew A n cap l:=⟨h.out.keep fun b e=>rfl,h.le⟩
end
theorem Blk.draw {w:World} {g:Nat} {e:TypeId} {cs:Array Value} (h:Blk w g e cs):Blk w.drew g e cs:=h.drew
theorem Far.draw {w0 w:World} (h:Far w0 w):Far w0 w.drew:=⟨h.out.drew⟩
theorem New.draw {w0:World} {α:Type} {t:Ty α} {w:World} {A:Option Addr} {n e:Nat} {l:List α} (h:New w0 t w A n e l):New w0 t w.drew A n e l:=⟨h.out.keep fun b a=>rfl⟩
section
variable {P:Program} {ops:Array Oper} {rest:List Oper} {op:Oper} {a:Act} {w:World} {Q:Exit → Act → World → Prop}
/-- One value of one cell is stored. -/
theorem wpList_store_one (d:op.guard=none) (s:TypeId) (x y:Operand) (k:op.op=.store s x y) (g off:Nat) (v:Value) (A:a.eval x=.pointer (some ⟨g,off,none⟩)) (B:a.eval y=v) (z:v.cells=#[v]) (p:v.oneCell'=true)
  (e:TypeId) (cs cs':Array Value) (r:Blk w g e cs) (m:off < cs.size) (hi:(P.info? s).map (·.size)=some 1) (t:cs'.toList=cs.toList.take off ++ [v] ++ cs.toList.drop (off+1))
  (h:∀ w',Blk w' g e cs' → w.grownBy w' (some g) → wpList P ops Q rest (a.put op.dst undef) w'):wpList P ops Q (op :: rest) a w:=by
 have t:=jj (vs:=[v]) (o:=off) (cs:=cs) (cs':=cs') (by simp;omega) (by simpa using t);subst t;have n:(storeVar s ⟨g,off,none⟩ v).run P w=.ok () (w.setCells g off [v]):=by
  have:=run_storeCells_cells (P:=P) g off [v] 0 w (fun j l=>by simp at l;subst l;rw [r.cell];simp;omega) (fun j l=>r.frozen _) (fun u f=>by simp at f;subst f;exact p);cases c:P.info? s with
  | none=>simp [c] at hi
  | some i =>
   have q:i.size=1:=by simpa [c] using hi
   simp only [Nat.add_zero] at this;simp [storeVar,sizeOf,typeInfo,c,z,q,this]
 refine wpList_plain d fun K b=>?_;unfold Oper.wp execOp;simp only [k,A,B,Instr.storeAt,Instr.sureAddr,Sem.run_bind,Sem.run_pure,Result.andThen_ok,n];exact b _ _ (h _ (Blk.setCells _ _ _ _ r) (eO _ _ _))
/-- The same, bY a region that draws its order. -/
theorem oper_store_one {K:Act → World → Prop} (s:TypeId) (x y:Operand) (p:op.op=.store s x y) (g off:Nat) (v:Value) (q:a.eval x=.pointer (some ⟨g,off,none⟩)) (z:a.eval y=v) (k:v.cells=#[v]) (f:v.oneCell'=true)
  (e:TypeId) (cs cs':Array Value) (r:Blk w g e cs) (c:off < cs.size) (hi:(P.info? s).map (·.size)=some 1) (t:cs'.toList=cs.toList.take off ++ [v] ++ cs.toList.drop (off+1))
  (h:∀ w',Blk w' g e cs' → w.grownBy w' (some g) → K (a.put op.dst undef) w'):op.wp P a w K Q:=by
 have t:=jj (vs:=[v]) (o:=off) (cs:=cs) (cs':=cs') (by simp;omega) (by simpa using t);subst t;have n:(storeVar s ⟨g,off,none⟩ v).run P w=.ok () (w.setCells g off [v]):=by
  have:=run_storeCells_cells (P:=P) g off [v] 0 w (fun j d=>by simp at d;subst d;rw [r.cell];simp;omega) (fun j d=>r.frozen _) (fun u m=>by simp at m;subst m;exact f);cases l:P.info? s with
  | none=>simp [l] at hi
  | some i =>
   have b:i.size=1:=by simpa [l] using hi
   simp only [Nat.add_zero] at this;simp [storeVar,sizeOf,typeInfo,l,k,b,this]
 unfold Oper.wp execOp;simp only [p,q,z,Instr.storeAt,Instr.sureAddr,Sem.run_bind,Sem.run_pure,Result.andThen_ok,n];exact h _ (Blk.setCells _ _ _ _ r) (eO _ _ _)
end
theorem de {w w':World} {g o:Nat} {vs:List Value} (h:w.rangeAt g o vs) (e:Below w.heap.size w w'):w'.rangeAt g o vs:=fun j v t=>au e (h j v t)
/-- A fact that stands when memory is added: A at w is B at w'. -/
class Kp (w w':World) (A:Prop) (B:outParam Prop):Prop where
 fut:A → Below w.heap.size w w' → B
/-- A fact that stands when block m is stored into, if C. -/
class St (w w':World) (m:Nat) (A:Prop) (B C:outParam Prop):Prop where
 away:A → w.grownBy w' (some m) → C → B
section
variable {w w':World} {A B X Y:Prop} {m:Nat} {C D:Prop} {w0:World} {α:Type} {t:Ty α} {p:Option Addr} {n cap:Nat} {l:List α} {g o:Nat} {e:TypeId} {cs:Array Value} {vs:List Value}
instance kpAnd [Kp w w' A B] [Kp w w' X Y]:Kp w w' (A∧X) (B∧Y):=⟨fun h hb=>⟨Kp.fut h.1 hb,Kp.fut h.2 hb⟩⟩
instance kpFar:Kp w w' (Far w0 w) (Far w0 w'):=⟨fun h hb=>h.fut hb⟩
instance kpOld:Kp w w' (Old w0 t w p n cap l) (Old w0 t w' p n cap l):=⟨fun h hb=>h.fut hb⟩
instance kpNew:Kp w w' (New w0 t w p n cap l) (New w0 t w' p n cap l):=⟨fun h hb=>h.fut hb⟩
instance kpBlk:Kp w w' (Blk w g e cs) (Blk w' g e cs):=⟨fun h hb=>h.fut hb⟩
instance kpSl:Kp w w' (Sl t w (blo w.heap.size) p n cap l) (Sl t w' (blo w'.heap.size) p n cap l):=⟨fun h hb=>h.fut hb⟩
instance kpRange:Kp w w' (w.rangeAt g o vs) (w'.rangeAt g o vs):=⟨de⟩
instance stAnd [St w w' m A B C] [St w w' m X Y D]:St w w' m (A∧X) (B∧Y) (C∧D):=⟨fun h g c=>⟨St.away h.1 g c.1,St.away h.2 g c.2⟩⟩
instance stFar:St w w' m (Far w0 w) (Far w0 w') (w0.heap.size≤m):=⟨fun h g c=>h.away g c⟩
instance stOld:St w w' m (Old w0 t w p n cap l) (Old w0 t w' p n cap l) (w0.heap.size≤m):=⟨fun h g c=>h.away g c⟩
instance stNew:St w w' m (New w0 t w p n cap l) (New w0 t w' p n cap l) (m < w0.heap.size):=⟨fun h g c=>h.away g c⟩
instance stBlk:St w w' m (Blk w g e cs) (Blk w' g e cs) (g < m ∨ m < g):=⟨fun h k c=>h.away k c⟩
instance stRange:St w w' m (w.rangeAt g o vs) (w'.rangeAt g o vs) (g < m ∨ m < g):=⟨fun h k c j v hv=>by
 have h1:=h j v hv;have hlt:=World.block_lt_of_cell? _ _ h1;rw [World.cell?_of_block (k.block g hlt (fun e=>by have:=Option.some.inj e;omega))];exact h1⟩
theorem DH {w w':World} {cs:Array Value} {e:TypeId} (k:(w.alloc (.cells cs e)).grownBy w' (some w.heap.size)):Below w.heap.size w w':=((Below.refl _ _).alloc (Nat.le_refl _) _).grown k (by simp) (fun j h=>by have:=Option.some.inj h;omega)
/-- A block is laid and stored into at once. -/
theorem sF {P:Program} {ops:Array Oper} {t:List Oper} {op:Oper} {a:Act} {Q:Exit → Act → World → Prop} {o:Array Value} (n:TypeId) (x y:Operand) (v:Array Value) (h:∀ w',Hid (Blk w' w.heap.size e v) → Below w.heap.size w w' → wpList P ops Q t (a.put op.dst undef) w')
  (i:op.guard=none:=by rfl) (d:op.op=.store n x y:=by rfl) (l:a.eval x=.pointer (some ⟨w.heap.size,0,none⟩):=by rfl) (c:a.eval y=.agg v:=by rfl) (r:o.size=v.size:=by rfl) (hi:(P.info? n).map (·.size)=some v.size:=by kernel_rfl) (s:v.all (·.oneCell')=true:=by rw [← Array.all_toList];rfl):wpList P ops Q (op :: t) a (w.alloc (.cells o e)) :=
 wpList_store_all i n x y d w.heap.size v l c e o (Blk.now _ _ _ _ rfl) r hi s fun w' b k=>h w' (Lib.hid b) (DH k)
/-- A number, a struct, a number are handed back. -/
theorem rTCT {P:Program} {i:Func} {R:Ending → World → Prop} {a:Act} {u p q:Tmp} {t:TypeId} {n:Array Field} (r:Blk w g e cs) (c:P.underlying t=some (.struct n)) (s:R (.returned (.tuple #[a.tmps.getD u undef,.agg cs,a.tmps.getD q undef])) w)
  (h:i.results=#[.tmp u,.cell p t,.tmp q]:=by rfl) (l:a.tmps.getD p undef=.pointer (some ⟨g,0,none⟩):=by rfl) (hi:(P.info? t).map (·.size)=some cs.size:=by kernel_rfl) (d:a.defers=[]:=by rfl):bodyPost P i R .ret a w:=by
 refine bodyPost_ret (v:=.tuple #[a.tmps.getD u undef,.agg cs,a.tmps.getD q undef]) ?_ d s;have o:a.tmps[p]?.getD undef=.pointer (some ⟨g,0,none⟩):=by simpa using l
 simp [results,h,Sem.run_bind,o,df,run_loadVar_row w g e t cs (0,0) (.struct n) r.heap c rfl hi,Result.andThen]
/-- A part of memory is loaded. -/
theorem lM {P:Program} {ops:Array Oper} {e:List Oper} {op:Oper} {a:Act} {Q:Exit → Act → World → Prop} {d:TypeDesc} (t:TypeId) (x:Operand) (r:w.rangeAt g o vs) (l:P.underlying t=some d) (h:wpList P ops Q e (a.put op.dst (.agg vs.toArray)) w)
  (i:op.guard=none:=by rfl) (s:op.op=.load t x:=by rfl) (c:a.eval x=.pointer (some ⟨g,o,none⟩):=by rfl) (n:d.isRow=true:=by rfl) (hi:(P.info? t).map (·.size)=some vs.length:=by kernel_rfl):wpList P ops Q (op :: e) a w :=
 wpList_load_mid i t x s g o c vs d r l n hi h
/-- A block was laid. -/
theorem zL {o:Obj} (h:w.alloc o=w'):w.heap.size < w'.heap.size:=by rw [← h];simp
/-- Memory was added. -/
theorem zF (e:Below w.heap.size w w') (h:Hid A) [Kp w w' A B]:Hid B:=Lib.hid (Kp.fut h.out e)
/-- An order was drawn. -/
theorem zD (w:World) (h:Hid A) [Kp w w.drew A B]:Hid B:=zF (Below.refl w.heap.size w).drew h
/-- A fact more. -/
theorem zJ (h:Hid A) (r:X):Hid (A∧X):=Lib.hid ⟨h.out,r⟩
/-- Memory was added, and of what is new something is known. -/
theorem zN (e:Below w.heap.size w w') (h:Hid A) (r:Hid X) [Kp w w' A B]:Hid (B∧X):=Lib.hid ⟨Kp.fut h.out e,r.out⟩
/-- Block m was stored into. -/
theorem zA (k:w.grownBy w' (some m)) (h:Hid A) [St w w' m A B C] (c:C:=by omega):Hid B:=Lib.hid (St.away h.out k c)
/-- The block that is last among the facts was stored into. -/
theorem zS {t:TypeId} {cs':Array Value} (k:w.grownBy w' (some m)) (b:Blk w' m t cs') (h:Hid (A∧Blk w m e cs)) [St w w' m A B C] (c:C:=by omega):Hid (B∧Blk w' m t cs'):=Lib.hid ⟨St.away h.out.1 k c,b⟩
end
instance kCoe:CoeOut World Nat:=⟨fun w=>w.heap.size⟩
abbrev QA:=Option Addr
abbrev xA (w:World) (A:Option Addr) (n c:Nat) (l:List Int):Prop:=Sl (ab .i8) w (blo w.heap.size) A n c l
abbrev xB (w:World) (A:Option Addr) (n c:Nat) (l:List Int):Prop:=Sl (ab .i32) w (blo w.heap.size) A n c l
theorem lT {a b c:Nat} (h:a≤b) (k:b≤c):a≤c:=Nat.le_trans h k
theorem lR (a:Nat):a≤a:=Nat.le_refl a
theorem _root_.Go.RowKit.Hid.u {w0 w:World} (h:Hid (Far w0 w)):Below w0.heap.size w0 w:=h.out.out
theorem qB (n:Nat) (w:World):Below n w w:=Below.refl n w
theorem zl (a:Nat):0≤a:=Nat.zero_le a
theorem sI {α:Type} {a b:α} (h:some a=some b):a=b:=Option.some.inj h
theorem dF {p:Prop} [Decidable p] (h:¬ p):decide p=false:=decide_eq_false h
theorem qT {p:Prop} [i:Decidable p] (h:p):decide p=true:=decide_eq_true h
theorem mG {α:Type} {l:List α} {i:Nat} {a:α} (h:l[i]?=some a):a ∈ l:=List.mem_of_getElem? h
theorem gD {α:Type} {l:List α} {i:Nat} {a:α}:l.getD i a=l[i]?.getD a:=List.getD_eq_getElem?_getD
theorem wI (n:Int) (h:-9223372036854775808≤n∧n≤9223372036854775807):IntKind.i64.wrap n=n:=IntWalk.i64_in n h
theorem wJ {n:Int} (h:-9223372036854775808≤n∧n≤9223372036854775807:=by omega):IntKind.i64.wrap n=n:=IntWalk.i64_in n h
theorem oM {p:Prop} (h:p:=by omega):p:=h
theorem sM {p:Prop} (h:p:=by simp):p:=h
theorem dM {p:Prop} (h:p:=by decide):p:=h
theorem kM {p:Prop} (h:p:=by kernel_rfl):p:=h
theorem zW (w:World):Hid (Far w w):=Lib.hid (Far.refl w)
theorem zO {w0 w:World} {α:Type} {t:Ty α} {p:Option Addr} {n c:Nat} {l:List α} (h:Hid (Sl t w0 (blo w0.heap.size) p n c l)) (f:Hid (Far w0 w)):Sl t w (blo w.heap.size) p n c l:=((Old.now h.out).fut f.out.out).all
theorem nF {w0 w:World} (f:Hid (Far w0 w)) (cs:Array Value) (e:TypeId):∃ w',w.alloc (.cells cs e)=w'∧Hid (Blk w' w.heap.size e cs)∧Hid (Far w0 w'):=⟨_,rfl,Lib.hid (Blk.now _ _ _ _ rfl),Lib.hid (f.out.fut ((Below.refl w.heap.size w).alloc (Nat.le_refl _) _))⟩
theorem qM {P:Program} {f:FuncId} {xs:Array Value} {w:World} {E:Ending} {B:World → Prop} {Q:Ending → World → Prop} (h:Calls P f xs w fun e w'=>e=E∧B w') (k:∀ w',B w' → Q E w'):Calls P f xs w Q :=
 h.mono (by rintro e w' ⟨rfl,t⟩;exact k w' t)
section
variable {w w':World} {n:Nat} {w0:World} {a:Addr} {v:Value} {g:Nat}
instance kpBel:Kp w w' (Below w0.heap.size w0 w) (Below w0.heap.size w0 w'):=⟨fun h hb=>aa hb h⟩
instance kpCell:Kp w w' (w.cell? a=some v) (w'.cell? a=some v):=⟨fun h hb=>au hb h⟩
theorem zR {A B:Prop} (e:Below w.heap.size w w') (h:A) [Kp w w' A B]:B:=Kp.fut h e
end
section
variable {P:Program} {ops:Array Oper} {rest:List Oper} {op:Oper} {a:Act} {w:World} {Q:Exit → Act → World → Prop} {ty:TypeId} {x y:Operand} {g:Nat} {e:TypeId} {cs:Array Value}
theorem Cc {o:Option TypeDesc} (h:o.any (·.isRow)=true):∃ d,o=some d∧d.isRow=true:=by
 cases o with
 | none=>cases h
 | some d=>exact ⟨d,rfl,h⟩
theorem lG (o:Blk w g e cs) (h:wpList P ops Q rest (a.put op.dst (.agg cs)) w)
  (t:op.guard=none:=by rfl) (n:op.op=.load e x:=by rfl) (l:a.eval x=.pointer (some ⟨g,0,none⟩):=by rfl) (hi:(P.info? e).map (·.size)=some cs.size:=by kernel_rfl) (i:(P.underlying e).any (·.isRow)=true:=by kernel_rfl):wpList P ops Q (op :: rest) a w:=by
 obtain ⟨d,r,s⟩:=Cc i;exact wpList_load_blk t e x n g 0 l e cs cs d o r s hi (by rw [List.drop_zero,List.take_of_length_le (by simp)]) h
theorem sG (vs:Array Value) (i:Blk w g e cs) (h:∀ w',Blk w' g e vs → w.grownBy w' (some g) → wpList P ops Q rest (a.put op.dst undef) w')
  (t:op.guard=none:=by rfl) (s:op.op=.store ty x y:=by rfl) (r:a.eval x=.pointer (some ⟨g,0,none⟩):=by rfl) (d:a.eval y=.agg vs:=by rfl) (n:cs.size=vs.size:=by rfl) (hi:(P.info? ty).map (·.size)=some vs.size:=by kernel_rfl) (o:vs.all (·.oneCell')=true:=by rw [← Array.all_toList];rfl):wpList P ops Q (op :: rest) a w :=
 wpList_store_all t ty x y s g vs r d e cs i n hi o h
theorem rG {i:Func} {R:Ending → World → Prop} {p u:Nat} (s:Blk w g e cs) (n:R (.returned (.tuple #[.agg cs,a.tmps.getD u undef])) w)
  (h:i.results=#[.cell p ty,.tmp u]:=by rfl) (l:a.tmps.getD p undef=.pointer (some ⟨g,0,none⟩):=by rfl) (hi:(P.info? ty).map (·.size)=some cs.size:=by kernel_rfl) (r:a.defers=[]:=by rfl) (t:((P.underlying ty).any fun d=>match d with|.struct _=>true|_=>false)=true:=by kernel_rfl):bodyPost P i R .ret a w:=by
 cases o:P.underlying ty with
 | none=>rw [o] at t;cases t
 | some d =>
  rw [o] at t;cases d <;> first|(cases t;done)|exact ret_cell_tmp h s l o hi r n
end
section
variable {P:Program} {ops:Array Oper} {Q:Exit → Act → World → Prop} {md:Region.Mode} {C S:World → Prop} {k0:Nat}
theorem kH' (t:Nat) {fuel:Nat} {e:Array Bool} {w:World} {i r:Act} {o:Oper} {s:Value} (m:S w) (h:wpAnyH P md ops Q S fuel (e.setIfInBounds t true) r w)
  (d:ops[t]?=some o:=by rfl) (b:YieldsIf P ops S o s i:=by exact Or.inl ⟨by rfl,(by intro w n;(try dsimp only at n);go_simp;try with_reducible rfl)⟩) (p:i.put o.dst s=r:=by (try simp only [pX]);rfl)
  (l:Region.free md ops e t=true:=by as_aux_lemma=>kernel_rfl) (v:(Region.ready md ops e).contains t=true:=by as_aux_lemma=>kernel_rfl) (y:∀ c a w,Q (.panic c) (a.put o.dst s) w → Q (.panic c) a w:=by exact fun _ _ _ h=>h)
  (f:Region.noSelect ops=true:=by as_aux_lemma=>kernel_rfl):wpAnyH P md ops Q S (fuel+1) e i w:=by
 subst p;exact wpAnyH_take d f l v y b m h
theorem kT' (t:Nat) {fuel:Nat} {e:Array Bool} {w:World} {i r:Act} {o:Oper} {s:Value} (m:C w) (h:aS P md ops Q C k0 fuel (e.setIfInBounds t true) r w)
  (d:ops[t]?=some o:=by rfl) (g:YieldsIf P ops C o s i:=by exact Or.inl ⟨by rfl,(by intro w n;(try dsimp only at n);go_simp;try with_reducible rfl)⟩) (v:i.put o.dst s=r:=by (try simp only [pX]);rfl)
  (l:Region.free md ops e t=true:=by as_aux_lemma=>kernel_rfl) (b:(Region.ready md ops e).contains t=true:=by as_aux_lemma=>kernel_rfl) (w0:Region.waitsFor md ops k0 t=true:=by as_aux_lemma=>kernel_rfl) (y:(t == k0)=false:=by rfl) (p:∀ c a w,Q (.panic c) (a.put o.dst s) w → Q (.panic c) a w:=by exact fun _ _ _ h=>h)
  (f:Region.noSelect ops=true:=by as_aux_lemma=>kernel_rfl):aS P md ops Q C k0 (fuel+1) e i w:=by
 subst v;exact wpAnyT_take d f l b w0 y p g m h
theorem xK {K R:Act → World → Prop} {T:World → Prop} {a e:Act} {w:World} (t:Shut (∀ a w,T w → (T w → R a w) → K a w)) (h:T w) (k:T w → R e w) (q:a=e:=by (try simp only [pX]);rfl):K a w:=by
 subst q;exact t.out a w h k
theorem rT (i:Nat) {o:Oper} {fuel:Nat} {e:Array Bool} {a:Act} {w:World} (h:∀ t:Act → World → Prop,Shut (∀ a w,C w → (C w → aS P md ops Q C k0 fuel (e.setIfInBounds i true) a w) → t a w) → if Region.wanted o (yielded ops a.tmps)=true then Oper.wp P o a w t Q else t (a.put o.dst undef) w)
  (r:Region.ready md ops e=[i]:=by kernel_rfl) (n:(i == k0)=false:=by rfl) (s:ops[i]?=some o:=by rfl):aS P md ops Q C k0 (fuel+1) e a w:=wpAnyT_one r n s h
end
section
variable {P:Program} {ops:Array Oper} {rest:List Oper} {op:Oper} {a:Act} {w:World} {Q:Exit → Act → World → Prop} {x y:Operand} {g off:Nat} {e:TypeId} {cs:Array Value}
theorem lP (t:TypeId) (vs:Array Value) (i:Blk w g e cs) (h:wpList P ops Q rest (a.put op.dst (.agg vs)) w)
  (o:op.guard=none:=by rfl) (s:op.op=.load t x:=by rfl) (m:a.eval x=.pointer (some ⟨g,off,none⟩):=by rfl) (hi:(P.info? t).map (·.size)=some vs.size:=by kernel_rfl) (n:(P.underlying t).any (·.isRow)=true:=by kernel_rfl) (c:(cs.toList.drop off).take vs.size=vs.toList:=by rfl):wpList P ops Q (op :: rest) a w:=by
 obtain ⟨d,l,r⟩:=Cc n;exact wpList_load_blk o t x s g off m e cs vs d i l r hi c h
theorem yP {t:TypeId} {S:World → Prop} (vs:Array Value) (o:∀ w,S w → Blk w g e cs)
  (l:Region.wanted op (yielded ops a.tmps)=true:=by rfl) (n:op.op=.load t x:=by rfl) (c:a.eval x=.pointer (some ⟨g,off,none⟩):=by rfl) (hi:(P.info? t).map (·.size)=some vs.size:=by kernel_rfl) (i:(P.underlying t).any (·.isRow)=true:=by kernel_rfl) (r:(cs.toList.drop off).take vs.size=vs.toList:=by rfl):YieldsIf P ops S op (.agg vs) a:=by
 obtain ⟨d,h,s⟩:=Cc i;exact yieldsIf_load_blk l t x n g off c e cs vs d o h s hi r
theorem oG {t:TypeId} {K:Act → World → Prop} (vs:Array Value) (i:Blk w g e cs) (h:∀ w',Blk w' g e vs → w.grownBy w' (some g) → K (a.put op.dst undef) w')
  (s:op.op=.store t x y:=by rfl) (r:a.eval x=.pointer (some ⟨g,0,none⟩):=by rfl) (d:a.eval y=.agg vs:=by rfl) (n:cs.size=vs.size:=by rfl) (hi:(P.info? t).map (·.size)=some vs.size:=by kernel_rfl) (o:vs.all (·.oneCell')=true:=by simp [Value.oneCell']):op.wp P a w K Q :=
 oper_store_blk t x y s g 0 vs r d e cs vs i (by omega) hi o (by
  have l:cs.toList.length=vs.size:=by simpa using n
  rw [List.take_zero,List.nil_append,Nat.zero_add,List.drop_of_length_le (by omega),List.append_nil]) h
theorem zB (w:World) (cs:Array Value) (e:TypeId):Below w.heap.size w (w.alloc (.cells cs e))∧Hid (Blk (w.alloc (.cells cs e)) w.heap.size e cs):=⟨(Below.refl _ _).alloc (Nat.le_refl _) _,Lib.hid (Blk.now _ _ _ _ rfl)⟩
end
section
variable {w:World} {g:Nat} {e:TypeId} {cs:Array Value}
theorem uc2 (h:Hid (Blk w g e cs)) (t a:Nat):w.cell? ⟨g,t,none⟩=cs[t]?∧w.cell? ⟨g,a,none⟩=cs[a]?:=⟨h.out.cell t,h.out.cell a⟩
theorem uc3 (h:Hid (Blk w g e cs)) (t a o:Nat):w.cell? ⟨g,t,none⟩=cs[t]?∧w.cell? ⟨g,a,none⟩=cs[a]?∧w.cell? ⟨g,o,none⟩=cs[o]?:=⟨h.out.cell t,h.out.cell a,h.out.cell o⟩
theorem uc4 (h:Hid (Blk w g e cs)) (t a o i3:Nat):w.cell? ⟨g,t,none⟩=cs[t]?∧w.cell? ⟨g,a,none⟩=cs[a]?∧w.cell? ⟨g,o,none⟩=cs[o]?∧w.cell? ⟨g,i3,none⟩=cs[i3]?:=⟨h.out.cell t,h.out.cell a,h.out.cell o,h.out.cell i3⟩
theorem uc8 (h:Hid (Blk w g e cs)) (t a o i3 i4 i n s:Nat):w.cell? ⟨g,t,none⟩=cs[t]?∧w.cell? ⟨g,a,none⟩=cs[a]?∧w.cell? ⟨g,o,none⟩=cs[o]?∧w.cell? ⟨g,i3,none⟩=cs[i3]?∧w.cell? ⟨g,i4,none⟩=cs[i4]?∧w.cell? ⟨g,i,none⟩=cs[i]?∧w.cell? ⟨g,n,none⟩=cs[n]?∧w.cell? ⟨g,s,none⟩=cs[s]?:=⟨h.out.cell t,h.out.cell a,h.out.cell o,h.out.cell i3,h.out.cell i4,h.out.cell i,h.out.cell n,h.out.cell s⟩
theorem uc9 (h:Hid (Blk w g e cs)) (t a o i3 i4 i n s r:Nat):w.cell? ⟨g,t,none⟩=cs[t]?∧w.cell? ⟨g,a,none⟩=cs[a]?∧w.cell? ⟨g,o,none⟩=cs[o]?∧w.cell? ⟨g,i3,none⟩=cs[i3]?∧w.cell? ⟨g,i4,none⟩=cs[i4]?∧w.cell? ⟨g,i,none⟩=cs[i]?∧w.cell? ⟨g,n,none⟩=cs[n]?∧w.cell? ⟨g,s,none⟩=cs[s]?∧w.cell? ⟨g,r,none⟩=cs[r]?:=⟨h.out.cell t,h.out.cell a,h.out.cell o,h.out.cell i3,h.out.cell i4,h.out.cell i,h.out.cell n,h.out.cell s,h.out.cell r⟩
end
section
variable {w w':World}
theorem uz2 {e t a o:Prop} (i:Below w.heap.size w w') (n:Hid e) (s:Hid t) [Kp w w' e a] [Kp w w' t o]:Hid a∧Hid o:=⟨zF i n,zF i s⟩
theorem uz3 {t a o i n s:Prop} (e:Below w.heap.size w w') (h:Hid t) (r:Hid a) (d:Hid o) [Kp w w' t i] [Kp w w' a n] [Kp w w' o s]:Hid i∧Hid n∧Hid s:=⟨zF e h,zF e r,zF e d⟩
theorem uz4 {t a o i n s h r:Prop} (e:Below w.heap.size w w') (d:Hid t) (l:Hid a) (c:Hid o) (m:Hid i) [Kp w w' t n] [Kp w w' a s] [Kp w w' o h] [Kp w w' i r]:Hid n∧Hid s∧Hid h∧Hid r:=⟨zF e d,zF e l,zF e c,zF e m⟩
theorem uz5 {t a o i n s h r d l:Prop} (e:Below w.heap.size w w') (c:Hid t) (m:Hid a) (f:Hid o) (y:Hid i) (p:Hid n) [Kp w w' t s] [Kp w w' a h] [Kp w w' o r] [Kp w w' i d] [Kp w w' n l]:Hid s∧Hid h∧Hid r∧Hid d∧Hid l:=⟨zF e c,zF e m,zF e f,zF e y,zF e p⟩
theorem uz6 {t a o i n s h r d l c m:Prop} (e:Below w.heap.size w w') (f:Hid t) (y:Hid a) (p:Hid o) (v:Hid i) (b:Hid n) (g:Hid s) [Kp w w' t h] [Kp w w' a r] [Kp w w' o d] [Kp w w' i l] [Kp w w' n c] [Kp w w' s m]:Hid h∧Hid r∧Hid d∧Hid l∧Hid c∧Hid m:=⟨zF e f,zF e y,zF e p,zF e v,zF e b,zF e g⟩
theorem uz7 {t a o i n s h r d l c m f y:Prop} (e:Below w.heap.size w w') (p:Hid t) (v:Hid a) (b:Hid o) (g:Hid i) (k:Hid n) (j:Hid s) (q:Hid h) [Kp w w' t r] [Kp w w' a d] [Kp w w' o l] [Kp w w' i c] [Kp w w' n m] [Kp w w' s f] [Kp w w' h y]:Hid r∧Hid d∧Hid l∧Hid c∧Hid m∧Hid f∧Hid y:=⟨zF e p,zF e v,zF e b,zF e g,zF e k,zF e j,zF e q⟩
theorem uz9 {t a o i n s h r d l c m f y p v b g:Prop} (e:Below w.heap.size w w') (k:Hid t) (j:Hid a) (q:Hid o) (x:Hid i) (z:Hid n) (A:Hid s) (B:Hid h) (C:Hid r) (D:Hid d) [Kp w w' t l] [Kp w w' a c] [Kp w w' o m] [Kp w w' i f] [Kp w w' n y] [Kp w w' s p] [Kp w w' h v] [Kp w w' r b] [Kp w w' d g]:Hid l∧Hid c∧Hid m∧Hid f∧Hid y∧Hid p∧Hid v∧Hid b∧Hid g:=⟨zF e k,zF e j,zF e q,zF e x,zF e z,zF e A,zF e B,zF e C,zF e D⟩
end
theorem bk2 (w:World) (i:Array Value) (s:TypeId) (n:Array Value) (h:TypeId):∃ e t,w.alloc (.cells i s)=e∧e.alloc (.cells n h)=t∧w.heap.size < e.heap.size∧e.heap.size < t.heap.size∧Hid (Blk t w.heap.size s i)∧Hid (Blk t e.heap.size h n)∧Below w.heap.size w t:=by
 obtain ⟨e,r,a,k1⟩:=nB w i s;obtain ⟨t,d,o,k2⟩:=nB e n h;have l:=(zF k2 a);have c:=o;exact ⟨e,t,r,d,zL r,zL d,l,c,(aa k2 k1)⟩
theorem bk3 (w:World) (s:Array Value) (l:TypeId) (h:Array Value) (c:TypeId) (r:Array Value) (t3:TypeId):∃ e t a,w.alloc (.cells s l)=e∧e.alloc (.cells h c)=t∧t.alloc (.cells r t3)=a∧w.heap.size < e.heap.size∧e.heap.size < t.heap.size∧t.heap.size < a.heap.size∧Hid (Blk a w.heap.size l s)∧Hid (Blk a e.heap.size c h)∧Hid (Blk a t.heap.size t3 r)∧Below w.heap.size w a:=by
 obtain ⟨e,m,o,k1⟩:=nB w s l;obtain ⟨t,f,i,k2⟩:=nB e h c;obtain ⟨a,y,n,d⟩:=nB t r t3;have p:=(zF d (zF k2 o));have v:=(zF d i);have b:=n;exact ⟨e,t,a,m,f,y,zL m,zL f,zL y,p,v,b,(aa d (aa k2 k1))⟩
theorem bk4 (w:World) (r:Array Value) (m:TypeId) (d:Array Value) (f:TypeId) (l:Array Value) (t3:TypeId) (c4:Array Value) (y:TypeId):∃ e t a w4,w.alloc (.cells r m)=e∧e.alloc (.cells d f)=t∧t.alloc (.cells l t3)=a∧a.alloc (.cells c4 y)=w4∧w.heap.size < e.heap.size∧e.heap.size < t.heap.size∧t.heap.size < a.heap.size∧a.heap.size < w4.heap.size∧Hid (Blk w4 w.heap.size m r)∧Hid (Blk w4 e.heap.size f d)∧Hid (Blk w4 t.heap.size t3 l)∧Hid (Blk w4 a.heap.size y c4)∧Below w.heap.size w w4:=by
 obtain ⟨e,p,o,k1⟩:=nB w r m;obtain ⟨t,v,i,k2⟩:=nB e d f;obtain ⟨a,b,n,c⟩:=nB t l t3;obtain ⟨w4,g,s,h⟩:=nB a c4 y;have k:=(zF h (zF c (zF k2 o)));have j:=(zF h (zF c i));have q:=(zF h n);have x:=s;exact ⟨e,t,a,w4,p,v,b,g,zL p,zL v,zL b,zL g,k,j,q,x,(aa h (aa c (aa k2 k1)))⟩
theorem bk5 (w:World) (c:Array Value) (v:TypeId) (m:Array Value) (b:TypeId) (f:Array Value) (t3:TypeId) (c4:Array Value) (g:TypeId) (y:Array Value) (k:TypeId):∃ t a o w4 e,w.alloc (.cells c v)=t∧t.alloc (.cells m b)=a∧a.alloc (.cells f t3)=o∧o.alloc (.cells c4 g)=w4∧w4.alloc (.cells y k)=e∧w.heap.size < t.heap.size∧t.heap.size < a.heap.size∧a.heap.size < o.heap.size∧o.heap.size < w4.heap.size∧w4.heap.size < e.heap.size∧Hid (Blk e w.heap.size v c)∧Hid (Blk e t.heap.size b m)∧Hid (Blk e a.heap.size t3 f)∧Hid (Blk e o.heap.size g c4)∧Hid (Blk e w4.heap.size k y)∧Below w.heap.size w e:=by
 obtain ⟨t,j,i,k1⟩:=nB w c v;obtain ⟨a,q,n,k2⟩:=nB t m b;obtain ⟨o,x,s,p⟩:=nB a f t3;obtain ⟨w4,z,h,l⟩:=nB o c4 g;obtain ⟨e,A,r,d⟩:=nB w4 y k;have B:=(zF d (zF l (zF p (zF k2 i))));have C:=(zF d (zF l (zF p n)));have D:=(zF d (zF l s));have E:=(zF d h);have F:=r;exact ⟨t,a,o,w4,e,j,q,x,z,A,zL j,zL q,zL x,zL z,zL A,B,C,D,E,F,(aa d (aa l (aa p (aa k2 k1))))⟩
theorem sO {p:Prop} (h:p:=by simp;omega):p:=h
theorem mL {p:Prop} (h:p:=by unfold maxLen;omega):p:=h
theorem zh2 {e t:Prop} (a:e) (o:t):Hid e∧Hid t:=⟨zH a,zH o⟩
theorem zh3 {e t a:Prop} (o:e) (i:t) (n:a):Hid e∧Hid t∧Hid a:=⟨zH o,zH i,zH n⟩
theorem zh4 {e t a o:Prop} (i:e) (n:t) (s:a) (h:o):Hid e∧Hid t∧Hid a∧Hid o:=⟨zH i,zH n,zH s,zH h⟩
theorem zh5 {e t a o i:Prop} (n:e) (s:t) (h:a) (r:o) (d:i):Hid e∧Hid t∧Hid a∧Hid o∧Hid i:=⟨zH n,zH s,zH h,zH r,zH d⟩
theorem zh6 {e t a o i n:Prop} (s:e) (h:t) (r:a) (d:o) (l:i) (c:n):Hid e∧Hid t∧Hid a∧Hid o∧Hid i∧Hid n:=⟨zH s,zH h,zH r,zH d,zH l,zH c⟩
theorem zh7 {e t a o i n s:Prop} (h:e) (r:t) (d:a) (l:o) (c:i) (m:n) (f:s):Hid e∧Hid t∧Hid a∧Hid o∧Hid i∧Hid n∧Hid s:=⟨zH h,zH r,zH d,zH l,zH c,zH m,zH f⟩
theorem zh8 {e t a o i n s h:Prop} (r:e) (d:t) (l:a) (c:o) (m:i) (f:n) (w:s) (y:h):Hid e∧Hid t∧Hid a∧Hid o∧Hid i∧Hid n∧Hid s∧Hid h:=⟨zH r,zH d,zH l,zH c,zH m,zH f,zH w,zH y⟩
end Go.Proofs.YtbecbfpoahhpnaaGreat
namespace Go.Proofs
open Tryz
open Go.Shelf
def Tryz.lays264_ren:Go.Shelf.Ren:=⟨fun|264=>176|n=>n,fun|53=>275|46=>281|n=>n,fun|n=>n⟩
theorem Tryz.lays264:Go.Proofs.Lays.n264 prog Tryz.lays264_ren:={
 mixed:=by kernel_rfl
 f264:=func176.trans (congrArg some (by kernel_rfl))
 t46:=underlying281
 a46:=Tryz.isAgg281
 z46:=Tryz.sizeOf281
 v46:=Tryz.zeroValue281
 t53:=underlying275
 a53:=Tryz.isAgg275
 z53:=Tryz.sizeOf275
 v53:=Tryz.zeroValue275 }
open Go.RowKit Go.Lib in
theorem Tryz.bits_Mul64 (x y:Nat) (t:x < 18446744073709551616) (a:y < 18446744073709551616) (w:World) :
  Calls prog 176 #[.int .u64 x,.int .u64 y] w fun e w'=>e=.returned (.tuple #[.int .u64 ((x*y / 18446744073709551616:Nat):Int),.int .u64 ((x*y % 18446744073709551616:Nat):Int)])∧w'=w:=Any.bits_Mul64 Tryz.lays264 x y t a w
end Go.Proofs
namespace Go.Proofs.YtbecbfpoahhpnaaGreat
open Tryz
open Go.RowKit Go.ChangeShapes Go.WideShapes
theorem satSize_any (a:Int) (w:World) (t:InK .i64 a):Calls prog 177 #[.int .i64 a] w fun e w'=>e=.returned (.int .u64 (a.natAbs:Int))∧w=w':=by
 rw [ai] at t;obtain ⟨o,i⟩:=t;by_cases h:a < 0
 ·go_in;go_wp2;go_ret;exact ⟨bK (by simp only [IntKind.wrap_u64];omega),rfl⟩
 ·go_in;go_wp2;go_ret;exact ⟨bK oM,rfl⟩
def satEnd (p:Int):Ending:=if InK .i64 p then .returned (.tuple #[.int .i64 p,.bool true]) else .returned (.tuple #[.int .i64 0,.bool false])
theorem sat_bad {p:Int} (h:¬ InK .i64 p):Ending.returned (.tuple #[.int .i64 0,.bool false])=satEnd p:=by unfold satEnd;rw [if_neg h]
theorem sat_ok {v p:Int} (h:v=p) (e:InK .i64 p):Ending.returned (.tuple #[.int .i64 v,.bool true])=satEnd p:=by unfold satEnd;rw [if_pos e,h]
theorem satTimes_any (a b:Int) (w:World) (k:InK .i64 a) (j:InK .i64 b) :
  Calls prog 144 #[.int .i64 a,.int .i64 b] w fun e w' =>
   e=satEnd (a*b)∧w=w':=by
 obtain ⟨L,M⟩:=zh2 k j;rw [ai] at k j;obtain ⟨S,T⟩:=k;obtain ⟨U,V⟩:=j;obtain ⟨x,z⟩:∃ x:Nat,x=a.natAbs:=⟨_,rfl⟩;obtain ⟨y,B⟩:∃ y:Nat,y=b.natAbs:=⟨_,rfl⟩;have A:x < 18446744073709551616:=oM;have C:y < 18446744073709551616:=oM;obtain ⟨hi,m⟩:∃ hi:Nat,hi=x*y / 18446744073709551616:=⟨_,rfl⟩;obtain ⟨lo,f⟩:∃ lo:Nat,lo=x*y % 18446744073709551616:=⟨_,rfl⟩;have c:(a*b).natAbs=x*y:=by rw [Int.natAbs_mul,z,B]
 have v:(a < 0∧b < 0 ∨ 0≤a∧0≤b) → 0≤a*b:=by
  rintro (⟨h,g⟩|⟨h,g⟩)
  ·exact Int.le_of_lt (Int.mul_pos_of_neg_of_neg h g)
  ·exact Int.mul_nonneg oM oM
 have r:(a < 0∧0≤b ∨ 0≤a∧b < 0) → a*b≤0:=by
  rintro (⟨h,g⟩|⟨h,g⟩)
  ·exact Int.mul_nonpos_of_nonpos_of_nonneg oM oM
  ·exact Int.mul_nonpos_of_nonneg_of_nonpos oM oM
 generalize I:a*b=p at *;generalize J:x*y=q at *;obtain ⟨t,i,O,P,R,N,s,H⟩:=zh8 m f z B I J c v;have l:=zH r;clear m f z B I J c v r;go_in;go_wp2_with fail;refine (satSize_any a _ L.o).mono ?_;rintro e K ⟨rfl,rfl⟩;go_wp2_with fail;refine (satSize_any b _ M.o).mono ?_;rintro e K ⟨rfl,rfl⟩;rw [← O.o,← P.o];go_wp2_with fail;refine (Tryz.bits_Mul64 x y A C _).mono ?_;rintro e K ⟨rfl,rfl⟩;rw [N.o,← t.o,← i.o];by_cases W:a < 0
 ·by_cases Q:b < 0
  ·have n:=H.o (.inl ⟨by omega,by omega⟩);have d:=zH n;have F:decide (a < 0)=true:=sO;have G:decide (b < 0)=true:=sO;clear n;go_wp2_with fail;all_goals
    go_ret2
    have k1:=t.o;have k2:=i.o;have D:=s.o;have E:=d.o;first
     | (refine ⟨sat_bad ?_,rfl⟩;rw [ai];omega;done)
     | (refine ⟨sat_ok ?_ ?_,rfl⟩;((try simp only [IntKind.wrap_u64,IntKind.wrap_i64,wrap64]);omega);rw [ai];omega;done)
  ·have n:=l.o (.inl ⟨by omega,by omega⟩);have d:=zH n;have F:decide (a < 0)=true:=sO;have G:decide (b < 0)=false:=sO;clear n;go_wp2_with fail;all_goals
    go_ret2
    have k1:=t.o;have k2:=i.o;have D:=s.o;have E:=d.o;first
     | (refine ⟨sat_bad ?_,rfl⟩;rw [ai];omega;done)
     | (refine ⟨sat_ok ?_ ?_,rfl⟩;((try simp only [IntKind.wrap_u64,IntKind.wrap_i64,wrap64]);omega);rw [ai];omega;done)
 ·by_cases Q:b < 0
  ·have n:=l.o (.inr ⟨by omega,by omega⟩);have d:=zH n;have F:decide (a < 0)=false:=sO;have G:decide (b < 0)=true:=sO;clear n;go_wp2_with fail;all_goals
    go_ret2
    have k1:=t.o;have k2:=i.o;have D:=s.o;have E:=d.o;first
     | (refine ⟨sat_bad ?_,rfl⟩;rw [ai];omega;done)
     | (refine ⟨sat_ok ?_ ?_,rfl⟩;((try simp only [IntKind.wrap_u64,IntKind.wrap_i64,wrap64]);omega);rw [ai];omega;done)
  ·have n:=H.o (.inr ⟨by omega,by omega⟩);have d:=zH n;have F:decide (a < 0)=false:=sO;have G:decide (b < 0)=false:=sO;clear n;go_wp2_with fail;all_goals
    go_ret2
    have k1:=t.o;have k2:=i.o;have D:=s.o;have E:=d.o;first
     | (refine ⟨sat_bad ?_,rfl⟩;rw [ai];omega;done)
     | (refine ⟨sat_ok ?_ ?_,rfl⟩;((try simp only [IntKind.wrap_u64,IntKind.wrap_i64,wrap64]);omega);rw [ai];omega;done)
end Go.Proofs.YtbecbfpoahhpnaaGreat
namespace Go.Proofs.YtbecbfpoahhpnaaGreat
open Go.RowKit Go.ChangeShapes Go.WideShapes Tryz
structure af where
 kind:Int
 a:Int
 b:Int
 k:Int
 s:Int
 p:Int
 out:Int
 za:Int
 zb:Int
 w:List Int
 bias:List Int
 qm:Int
 qs:Int
 qz:Int
 rm:Int
 rs:Int
 rz:Int
 lo:Int
 hi:Int
abbrev nD (d:af) (W:QA) (nw cw:Nat) (B:QA) (nb cb:Nat):Array Value:=nN d.kind d.a d.b d.k d.s d.p d.out d.za d.zb W nw cw B nb cb d.qm d.qs d.qz d.rm d.rs d.rz d.lo d.hi
structure aQ (d:af):Prop where
 kind:InK .i64 d.kind
 a:InK .i64 d.a
 b:InK .i64 d.b
 k:InK .i64 d.k
 s:InK .i64 d.s
 p:InK .i64 d.p
 out:InK .i64 d.out
 za:InK .i8 d.za
 zb:InK .i8 d.zb
 qm:InK .i32 d.qm
 qs:InK .i64 d.qs
 qz:InK .i8 d.qz
 rm:InK .i32 d.rm
 rs:InK .i64 d.rs
 rz:InK .i8 d.rz
 lo:InK .i8 d.lo
 hi:InK .i8 d.hi
abbrev Cv:=Int × Int × Int × Int × Int × Int × Int × Int × Int × List Int × List Int × (Int × Int × Int) × (Int × Int × Int) × Int × Int
def D9:Cv → af:=fun (kind,a,b,k,s,p,out,za,zb,w,bias,(qm,qs,qz),(rm,rs,rz),lo,hi)=>{ kind,a,b,k,s,p,out,za,zb,w,bias,qm,qs,qz,rm,rs,rz,lo,hi }
def uB:Ty (Int × Int × Int):=tPair (ab .i32) (tPair (ab .i64) (ab .i8))
def Ee:Ty Cv:=tPair (ab .i64) (tPair (ab .i64) (tPair (ab .i64) (tPair (ab .i64) (tPair (ab .i64) (tPair (ab .i64) (tPair (ab .i64) (tPair (ab .i8) (tPair (ab .i8)
 (tPair (tSlice (ab .i8)) (tPair (tSlice (ab .i32)) (tPair uB (tPair uB (tPair (ab .i8) (ab .i8))))))))))))))
def di:Ty af:=tMap D9 Ee
theorem qX {w:World} {S:Nat → Prop} {cs:List Value} {d:af} (h:di.rep w S cs d) :
  ∃ W nw e B nb cb,cs=[.int .i64 d.kind,.int .i64 d.a,.int .i64 d.b,.int .i64 d.k,.int .i64 d.s,.int .i64 d.p,.int .i64 d.out,.int .i8 d.za,.int .i8 d.zb,.slice W nw e,.slice B nb cb,.int .i32 d.qm,.int .i64 d.qs,.int .i8 d.qz,.int .i32 d.rm,.int .i64 d.rs,.int .i8 d.rz,.int .i8 d.lo,.int .i8 d.hi]∧aQ d∧Sl (ab .i8) w S W nw e d.w∧Sl (ab .i32) w S B nb cb d.bias:=by
 obtain ⟨⟨g,a,b,k,s,p,out,N,O,M,bias,⟨H,I,J⟩,⟨K,rs,L⟩,lo,hi⟩,rfl,h⟩:=h;obtain ⟨_,_,rfl,⟨rfl,j⟩,_,_,rfl,⟨rfl,q⟩,_,_,rfl,⟨rfl,x⟩,_,_,rfl,⟨rfl,z⟩,_,_,rfl,⟨rfl,A⟩,_,_,rfl,⟨rfl,C⟩,_,_,rfl,⟨rfl,D⟩,_,_,rfl,⟨rfl,E⟩,_,_,rfl,⟨rfl,F⟩,
  _,_,rfl,G,_,_,rfl,y,_,_,rfl,⟨_,_,rfl,⟨rfl,t⟩,_,_,rfl,⟨rfl,o⟩,rfl,i⟩,_,_,rfl,⟨_,_,rfl,⟨rfl,n⟩,_,_,rfl,⟨rfl,r⟩,rfl,l⟩,_,_,rfl,⟨rfl,c⟩,rfl,m⟩:=h
 obtain ⟨W,e,rfl,v⟩:=aZ.1 G;obtain ⟨B,cb,rfl,f⟩:=aZ.1 y;exact ⟨W,_,e,B,_,cb,rfl,⟨j,q,x,z,A,C,D,E,F,t,o,i,n,r,l,c,m⟩,v,f⟩
/-! ### Tensors -/
structure ae where
 h:Int
 v:Int
 c:Int
 data:List Int
structure aw (t:ae):Prop where
 h:InK .i64 t.h
 v:InK .i64 t.v
 c:InK .i64 t.c
def dg:Ty (Int × Int × Int):=tPair (ab .i64) (tPair (ab .i64) (ab .i64))
def uD (k:IntKind):Ty ae:=tMap (fun (x:(Int × Int × Int) × List Int)=>⟨x.1.1,x.1.2.1,x.1.2.2,x.2⟩) (tPair dg (tSlice (ab k)))
def Ds:Ty ae:=uD .i8
theorem vK {k:IntKind} {w:World} {S:Nat → Prop} {cs:List Value} {t:ae} (h:(uD k).rep w S cs t) :
  ∃ A n e,cs=[.int .i64 t.h,.int .i64 t.v,.int .i64 t.c,.slice A n e]∧aw t∧Sl (ab k) w S A n e t.data:=by
 obtain ⟨⟨⟨a,b,c⟩,l⟩,rfl,_,_,rfl,⟨_,_,rfl,⟨rfl,i⟩,_,_,rfl,⟨rfl,s⟩,rfl,r⟩,d⟩:=h;obtain ⟨A,e,rfl,o⟩:=aZ.1 d;exact ⟨A,_,e,rfl,⟨i,s,r⟩,o⟩
def aT (k:IntKind) (x:ae) (code:Int) (w:World) (e:Ending) (w':World):Prop :=
 ∃ A n cap,e=.returned (.tuple #[.agg (tN x.h x.v x.c A n cap),.int .i64 code])∧Sl (ab k) w' (bin w w') A n cap x.data∧Below w w w'
def ak:ae:=⟨0,0,0,[]⟩
theorem aT.none {k:IntKind} {e:Int} {w w':World} (t:Below w w w'):aT k ak e w (.returned (.tuple #[.agg (tN 0 0 0 none 0 0),.int .i64 e])) w' :=
 ⟨Option.none,0,0,rfl,Sl.nil _ _ _,t⟩
theorem lX:Opens prog 27 (tSlice (ab .i8)):=f9 underlying27 kM dM (iR underlying80 kM)
theorem pg:Opens prog 42 (tSlice (ab .i32)):=f9 underlying42 kM dM (iR underlying21 kM)
theorem dx:Opens prog 3 (ab .i64):=iR underlying3 kM
theorem jH:Opens prog 80 (ab .i8):=iR underlying80 kM
theorem qY:Opens prog 21 (ab .i32):=iR underlying21 kM
theorem ng:Opens prog 23 dg:=dQ underlying23 kM (aA rfl dx (aA rfl dx (dd rfl dx)))
theorem tU:Opens prog 29 Ds:=iS _ (dQ underlying29 kM (aA rfl ng (dd rfl lX)))
theorem nf:Opens prog 82 uB:=dQ underlying82 kM (aA rfl qY (aA rfl dx (dd rfl jH)))
theorem xh:Opens prog 84 di:=iS _ (dQ underlying84 kM
 (aA rfl dx (aA rfl dx (aA rfl dx (aA rfl dx (aA rfl dx (aA rfl dx (aA rfl dx (aA rfl jH (aA rfl jH
 (aA rfl lX (aA rfl pg (aA rfl nf (aA rfl nf (aA rfl jH (dd rfl jH))))))))))))))))
def pre (l:List Int):Nat → Int
 | 0=>1
 | k+1=>pre l k*l.getD k 0
def sH (l:List Int) (k:Nat):Prop:=∀ j,j < k → 1≤l.getD j 0∧pre l (j+1)≤1024
def lh (l:List Int):Int:=if 1≤l.getD 0 0∧pre l 1≤1024∧1≤l.getD 1 0∧pre l 2≤1024∧1≤l.getD 2 0∧pre l 3≤1024 then pre l 3 else 0
theorem xz (l:List Int) (h:sH l 3):lh l=pre l 3:=by
 have e:=h 0 oM;have t:=h 1 oM;have a:=h 2 oM;unfold lh;rw [if_pos ⟨e.1,e.2,t.1,t.2,a.1,a.2⟩]
theorem zC (l:List Int) (k:Nat) (t:k < 3) (h:¬ (1≤l.getD k 0∧pre l (k+1)≤1024)):lh l=0:=by
 unfold lh;rw [if_neg];rintro ⟨a,b,c,d,e,f⟩;apply h
 match k,t with
 | 0,_=>exact ⟨a,b⟩
 | 1,_=>exact ⟨c,d⟩
 | 2,_=>exact ⟨e,f⟩
theorem Df (l:List Int) (k:Nat) (h:sH l k):1≤pre l k∧pre l k≤1024:=by
 induction k with
 | zero=>exact ⟨by simp [pre],by simp [pre]⟩
 | succ k ih =>
  have t:=ih (fun j a=>h j oM);have e:=h k oM;refine ⟨?_,e.2⟩;have:0 < pre l k*l.getD k 0:=Int.mul_pos oM oM;rw [pre];omega
def ag (h w c:Int):Int:=if 16 < h ∨ 16 < w then 0 else lh [h,w,c]
theorem cO (h w c:Int):ag h w c=if 1≤h∧h≤16∧1≤w∧w≤16∧1≤c∧c≤1024∧h*w*c≤1024 then h*w*c else 0:=by
 unfold ag;by_cases o:16 < h ∨ 16 < w
 ·rw [if_pos o,if_neg oM]
 ·rw [if_neg o];unfold lh;simp only [pre,List.getD_cons_zero,List.getD_cons_succ,Int.one_mul];by_cases t:1≤h∧h≤1024∧1≤w∧h*w≤1024∧1≤c∧h*w*c≤1024
  ·obtain ⟨a,b,d,e,f,g⟩:=t;have n:1*c≤(h*w)*c:=Int.mul_le_mul_of_nonneg_right (by have:=Int.mul_pos (show 0 < h by omega) (show 0 < w by omega);omega) oM;rw [if_pos ⟨a,b,d,e,f,g⟩,if_pos oM]
  ·rw [if_neg t,if_neg];rintro ⟨a,b,d,e,f,g,i⟩;apply t;have n:h*w≤16*16:=Int.mul_le_mul b e oM oM;omega
theorem aF (h w c:Int):0≤ag h w c∧ag h w c≤1024:=by
 rw [cO];split
 ·rename_i e;have:=Int.mul_pos (Int.mul_pos (show 0 < h by omega) (show 0 < w by omega)) (show 0 < c by omega);omega
 ·omega
theorem vz (l:List Int) (R:l.length=3) (w:World) (C:InK .i64 (l.getD 0 0)) (D:InK .i64 (l.getD 1 0)) (F:InK .i64 (l.getD 2 0)) :
  Calls prog 110 #[.agg (sN (l.getD 0 0) (l.getD 1 0) (l.getD 2 0))] w fun e w'=>e=.returned (.int .i64 (lh l))∧Below w w w':=by
 match l,R with
 | [x,y,z],_ =>
 simp only [List.getD_cons_zero,List.getD_cons_succ] at C D F ⊢;have s:∀ k,k < 3 → (w.alloc (.cells (sN x y z) 206)).cell? ⟨w.heap.size,k,none⟩=some (.int .i64 ([x,y,z].getD k 0))∧InK .i64 ([x,y,z].getD k 0):=by
  intro k K
  match k,K with
  | 0,_=>exact ⟨by simp [go_sem],C⟩
  | 1,_=>exact ⟨by simp [go_sem],D⟩
  | 2,_=>exact ⟨by simp [go_sem],F⟩
 have M:=zH s;clear s C D F;go_in;go_wp2_with fail
 go_loop [3,7] (fun n i=>∃ k:Nat,k≤3∧i=.int .i64 k∧n=.int .i64 (pre [x,y,z] k)∧sH [x,y,z] k) (fun _ i=>3 - (intOf i).toNat)
 case atStart=>exact ⟨0,zl _,rfl,rfl,fun j Q=>by omega⟩
 case round =>
  obtain ⟨k,K,rfl,rfl,d⟩:=hrel;have U:=Df _ k d;by_cases g:k < 3
  ·obtain ⟨c,L⟩:=M.o k g;have G:=zC [x,y,z] k g;have r:pre [x,y,z] (k+1)=pre [x,y,z] k*[x,y,z].getD k 0:=rfl;have h:1≤[x,y,z].getD k 0 → pre [x,y,z] (k+1)≤1024 → sH [x,y,z] (k+1):=by
    intro a b j Q;by_cases H:j < k
    ·exact d j H
    ·obtain rfl:j=k:=oM;exact ⟨a,b⟩
   generalize S:pre [x,y,z] k=q at *;generalize [x,y,z].getD k 0=v at *;rw [r] at G h;obtain ⟨B,O,P,I⟩:=zh4 G h r L;clear G h r L d S;have V:=ai.1 I.o;go_wp2_with fail;refine (satTimes_any q v _ (by rw [ai];omega) I.o).mono ?_;rintro e w' ⟨rfl,rfl⟩;unfold satEnd;by_cases t:InK .i64 (q*v)
   ·rw [if_pos t];have J:=ai.1 t;have N:=zH t;clear t;generalize A:q*v=p at *;have T:=zH A;clear A;by_cases W:v < 1
    ·go_wp2;go_ret;exact ⟨bK (B.o oM).symm,by go_grown⟩
    ·by_cases X:1024 < p
     ·go_wp2;go_ret;exact ⟨bK (B.o oM).symm,by go_grown⟩
     ·go_wp2;exact ⟨⟨k+1,by omega,by go_num,by rw [P.o],O.o oM oM⟩,by simp [intOf];omega⟩
   ·rw [if_neg t];have m:¬ (1≤v∧q*v≤1024):=by
     rintro ⟨a,b⟩;apply t;rw [ai];have:=Int.mul_pos (show 0 < q by omega) (show 0 < v by omega);omega
    have f:=zH m;clear t m;go_wp2;go_ret;exact ⟨bK (B.o f.o).symm,by go_grown⟩
  ·obtain rfl:k=3:=oM;have e:=xz _ d;have E:=zH e;clear e;go_wp2;go_ret;exact ⟨bK E.o.symm,by go_grown⟩
theorem bL (h c:Int) (v:Int) (w:World) (t:InK .i64 h) (a:InK .i64 v) (i:InK .i64 c) :
  Calls prog 85 #[.agg (sN h v c)] w fun e w'=>e=.returned (.int .i64 (ag h v c))∧Below w w w':=by
 obtain ⟨n,s,r⟩:=zh3 t a i;clear t a i;by_cases l:16 < h
 ·go_in;go_wp2;go_ret;exact ⟨bK (by unfold ag;rw [if_pos oM]),by go_grown⟩
 ·by_cases m:16 < v
  ·go_in;go_wp2;go_ret;exact ⟨bK (by unfold ag;rw [if_pos oM]),by go_grown⟩
  ·go_in;go_wp2_with fail;refine qM (vz [h,v,c] rfl _ n.o s.o r.o) fun w' d=>?_;go_wp2;go_ret;exact ⟨bK (by unfold ag;rw [if_neg oM]),((qB _ _).alloc (lR _) _).trans (d.mono sM)⟩
theorem bX (h c:Int) (v:Int) (w:World) (m:InK .i64 h) (f:InK .i64 v) (y:InK .i64 c) :
  Calls prog 47 #[.agg (sN h v c)] w fun e w'=>e=.returned (.int .i64 (ag h v c))∧Below w w w':=by
 rw [cO];by_cases r:1≤h∧h≤16∧1≤v∧v≤16∧1≤c∧c≤1024
 ·obtain ⟨i,t,n,a,s,o⟩:=r;have l:0≤h*v∧h*v≤256:=⟨Int.mul_nonneg oM oM,Int.mul_le_mul t a oM oM⟩;have p:0≤h*v*c∧h*v*c≤256*1024:=⟨Int.mul_nonneg oM oM,Int.mul_le_mul l.2 o oM oM⟩;by_cases d:h*v*c≤1024
  ·rw [if_pos ⟨i,t,n,a,s,o,d⟩];go_in;go_wp2;go_ret;exact ⟨rfl,by go_grown⟩
  ·rw [if_neg oM];go_in;go_wp2;go_ret;exact ⟨rfl,by go_grown⟩
 ·rw [if_neg oM];by_cases i:1≤h;rotate_left
  ·go_in;go_wp2;go_ret;exact ⟨rfl,by go_grown⟩
  by_cases t:h≤16;rotate_left
  ·go_in;go_wp2;go_ret;exact ⟨rfl,by go_grown⟩
  by_cases n:1≤v;rotate_left
  ·go_in;go_wp2;go_ret;exact ⟨rfl,by go_grown⟩
  by_cases a:v≤16;rotate_left
  ·go_in;go_wp2;go_ret;exact ⟨rfl,by go_grown⟩
  by_cases s:1≤c;rotate_left
  ·go_in;go_wp2;go_ret;exact ⟨rfl,by go_grown⟩
  have o:¬ c≤1024:=oM;clear r;go_in;go_wp2;go_ret;exact ⟨rfl,by go_grown⟩
theorem aV (h c:Int) (v:Int) (w:World) (t:InK .i64 h) (a:InK .i64 v) (i:InK .i64 c) :
  Calls prog 77 #[.agg (sN h v c)] w fun e w'=>e=.returned (.bool (decide (0 < ag h v c)))∧Below w w w':=by
 obtain ⟨n,s,r⟩:=zh3 t a i;clear t a i;go_in;go_wp2_with fail;refine qM (bL h c v _ n.o s.o r.o) fun w' d=>?_;go_wp2;go_ret;exact ⟨rfl,((qB _ _).alloc (lR _) _).trans (d.mono sM)⟩
/-! ### Tensors -/
def inB (v lo hi:Int):Bool:=decide (lo≤v∧v≤hi)
theorem jf {v lo hi:Int} (h:lo≤v∧v≤hi):inB v lo hi=true:=qT h
theorem mF {v lo hi:Int} (h:¬ (lo≤v∧v≤hi)):inB v lo hi=false:=dF h
theorem jF (v lo hi:Int) (w:World):Calls prog 202 (sN v lo hi) w fun e w'=>e=.returned (.bool (inB v lo hi))∧w=w':=by
 obtain ⟨r,a⟩:∃ r,inB v lo hi=r:=⟨_,rfl⟩;rw [a];by_cases t:lo≤v
 ·have n:decide (lo≤v)=true:=qT t;by_cases i:v≤hi
  ·have s:decide (v≤hi)=true:=qT i;have R:=zH (show true=r by rw [← a,jf ⟨t,i⟩]);clear t i a;go_in;go_wp2;go_ret;exact ⟨aC R.o,rfl⟩
  ·have s:decide (v≤hi)=false:=dF i;have R:=zH (show false=r by rw [← a,mF (fun e=>i e.2)]);clear t i a;go_in;go_wp2;go_ret;exact ⟨aC R.o,rfl⟩
 ·have n:decide (lo≤v)=false:=dF t;have R:=zH (show false=r by rw [← a,mF (fun e=>t e.1)]);clear t a;go_in;go_wp2;go_ret;exact ⟨aC R.o,rfl⟩
def eE (n k s p:Int):Prop:=1≤n∧n≤1024∧1≤k∧k≤5∧1≤s∧s≤4∧0≤p∧p≤4∧p < k
instance (n k s p:Int):Decidable (eE n k s p):=inferInstanceAs (Decidable (_∧_))
def aK (n k s p:Int):Int × Int:=if eE n k s p then (if n+2*p < k then (0,5) else ((n+2*p - k).tdiv s+1,0)) else (0,2)
theorem pG {n k s p:Int} (h:¬ eE n k s p):aK n k s p=(0,2):=if_neg h
theorem iU {n k s p:Int} (h:eE n k s p) (e:n+2*p < k):aK n k s p=(0,5):=by unfold aK;rw [if_pos h,if_pos e]
theorem ig {n k s p:Int} (h:eE n k s p) (e:¬ n+2*p < k):aK n k s p=((n+2*p - k).tdiv s+1,0):=by unfold aK;rw [if_pos h,if_neg e]
theorem rt (n k s p:Int) (w:World):Calls prog 174 #[.int .i64 n,.int .i64 k,.int .i64 s,.int .i64 p] w fun e w'=>e=.returned (.tuple #[.int .i64 (aK n k s p).1,.int .i64 (aK n k s p).2])∧w=w':=by
 by_cases c:eE n k s p
 ·have m:=jf (v:=n) (lo:=1) (hi:=1024) ⟨c.1,c.2.1⟩;have f:=jf (v:=k) (lo:=1) (hi:=5) ⟨c.2.2.1,c.2.2.2.1⟩;have t3:=jf (v:=s) (lo:=1) (hi:=4) ⟨c.2.2.2.2.1,c.2.2.2.2.2.1⟩;have y:=jf (v:=p) (lo:=0) (hi:=4) ⟨c.2.2.2.2.2.2.1,c.2.2.2.2.2.2.2.1⟩;have C:=c;unfold eE at c;have g:decide (k≤p)=false:=sO;have x:IntKind.i64.wrap (2*p)=2*p:=wJ;have z:IntKind.i64.wrap (n+2*p)=n+2*p:=wJ;by_cases h:n+2*p < k
  ·have j:decide (n+2*p < k)=true:=qT h;have R:=zH (iU C h);clear c C h;go_in
   go_wp2_with (go_at_call 202;refine (jF _ _ _ _).mono ?_;rintro e w' ⟨rfl,rfl⟩)
   go_ret2
   exact ⟨by rw [R.o];rfl,rfl⟩
  ·have j:decide (n+2*p < k)=false:=dF h;have R:=zH (ig C h);have A:IntKind.i64.wrap (n+2*p - k)=n+2*p - k:=wJ;have b:0≤(n+2*p - k).tdiv s∧(n+2*p - k).tdiv s≤2000:=by
    rw [Int.tdiv_eq_ediv_of_nonneg oM];refine ⟨Int.ediv_nonneg oM oM,?_⟩;exact Int.le_trans (Int.ediv_le_self _ oM) oM
   have F:(s == 0)=false:=sO;have r:s ≠ 0:=oM;have q:=zH r;generalize E:(n+2*p - k).tdiv s=d at *;have B:IntKind.i64.wrap d=d:=wJ;have D:IntKind.i64.wrap (d+1)=d+1:=wJ;clear c C h b r;go_in
   go_wp2_with (go_at_call 202;refine (jF _ _ _ _).mono ?_;rintro e w' ⟨rfl,rfl⟩)
   go_ret2
   exact ⟨by rw [R.o];rfl,rfl⟩
 ·have R:=zH (pG c);by_cases t:1≤n∧n≤1024;rotate_left
  ·have m:=mF t;clear c t;go_in
   go_wp2_with (go_at_call 202;refine (jF _ _ _ _).mono ?_;rintro e w' ⟨rfl,rfl⟩)
   go_ret2
   exact ⟨by rw [R.o];rfl,rfl⟩
  have m:=jf t;by_cases a:1≤k∧k≤5;rotate_left
  ·have f:=mF a;clear c t a;go_in
   go_wp2_with (go_at_call 202;refine (jF _ _ _ _).mono ?_;rintro e w' ⟨rfl,rfl⟩)
   go_ret2
   exact ⟨by rw [R.o];rfl,rfl⟩
  have f:=jf a;by_cases i:1≤s∧s≤4;rotate_left
  ·have t3:=mF i;clear c t a i;go_in
   go_wp2_with (go_at_call 202;refine (jF _ _ _ _).mono ?_;rintro e w' ⟨rfl,rfl⟩)
   go_ret2
   exact ⟨by rw [R.o];rfl,rfl⟩
  have t3:=jf i;by_cases l:0≤p∧p≤4;rotate_left
  ·have y:=mF l;clear c t a i l;go_in
   go_wp2_with (go_at_call 202;refine (jF _ _ _ _).mono ?_;rintro e w' ⟨rfl,rfl⟩)
   go_ret2
   exact ⟨by rw [R.o];rfl,rfl⟩
  have y:=jf l;have g:decide (k≤p)=true:=by simp;unfold eE at c;omega
  clear c t a i l;go_in
  go_wp2_with (go_at_call 202;refine (jF _ _ _ _).mono ?_;rintro e w' ⟨rfl,rfl⟩)
  go_ret2
  exact ⟨by rw [R.o];rfl,rfl⟩
end Go.Proofs.YtbecbfpoahhpnaaGreat
namespace Go.Proofs.YtbecbfpoahhpnaaGreat
open Tryz
theorem lS {l e:List Int} {n:Nat} (o:l.length=n) (i:e.length=n) (h:∀ j,j < n → l.getD j 0=e.getD j 0):l=e:=by
 apply List.ext_getElem oM;intro j t a;have:=h j oM;rw [gD,gD,List.getElem?_eq_getElem t,List.getElem?_eq_getElem a] at this;exact this
end Go.Proofs.YtbecbfpoahhpnaaGreat
namespace Go.Proofs.YtbecbfpoahhpnaaGreat
open Go.RowKit Go.ChangeShapes Go.WideShapes Tryz
theorem oR (A z:QA) (n r m t:Nat) (l a:List Int) (w:World) (h:xA w A n r l) (p:xA w z m t a) :
  Calls prog 61 #[.slice A n r,.slice z m t] w fun e w'=>e=.returned (.bool (decide (l=a)))∧Below w w w':=by
 have V:n≤9223372036854775807:=lT h.cap_le h.max_le;have P:m≤9223372036854775807:=lT p.cap_le p.max_le;obtain ⟨H,v⟩:=zh2 h p;clear h p;by_cases q:n=m;rotate_left
 ·have N:((n:Int) != (m:Int))=true:=by rw [bne_iff_ne];omega
  have f:decide (l=a)=false:=by rw [decide_eq_false_iff_not];rintro rfl;exact q (H.o.n_eq.symm.trans v.o.n_eq)
  rw [f];clear q;go_in;go_wp2;go_ret;exact ⟨rfl,qB _ _⟩
 subst q;have N:((n:Int) != (n:Int))=false:=by simp
 go_in;go_wp2;go_loopw [13] (fun i wr=>∃ k:Nat,k≤n∧i=.int .i64 k∧wr.heap=w.heap∧Below w w wr∧∀ j,j < k → l.getD j 0=a.getD j 0) (fun i _=>n - (intOf i).toNat)
 case atStart=>exact ⟨0,zl _,rfl,rfl,qB _ _,fun j D=>absurd D (Nat.not_lt_zero _)⟩
 case round =>
  obtain ⟨k,U,rfl,C,d,E⟩:=hrel;have B:=zH E;clear E;by_cases c:k < n
  ·obtain ⟨b,off,rfl,_,_,T,Q⟩:=(H.o.below d (fun _ h=>h)).int_at k c;obtain ⟨S,G,rfl,_,_,M,R⟩:=(v.o.below d (fun _ h=>h)).int_at k c;have K:=zH C;clear C Q R;by_cases s:l.getD k 0=a.getD k 0
   ·rw [← s] at M;generalize F:l.getD k 0=x at *;have O:(x != x)=false:=by simp
    obtain ⟨L,J⟩:=zh2 F s;clear F s;go_wp2_with fail;go_quiet (fail);go_wp2_with fail;refine ⟨⟨k+1,by omega,by go_num,K.o,aI d _,fun j D=>?_⟩,by simp [intOf];omega⟩;by_cases g:j < k
    ·exact B.o j g
    ·obtain rfl:j=k:=oM;rw [L.o,J.o]
   ·have f:decide (l=a)=false:=by rw [decide_eq_false_iff_not];rintro rfl;exact s rfl
    have O:(l.getD k 0 != a.getD k 0)=true:=by rw [bne_iff_ne];exact s
    generalize l.getD k 0=x at *;generalize a.getD k 0=y at *;have I:=zH f;clear f s;go_wp2_with fail;go_quiet (fail);go_wp2;go_ret;exact ⟨by rw [I.o];rfl,aI d _⟩
  ·obtain rfl:k=n:=oM;go_wp2;go_ret;exact ⟨by rw [qT (lS H.o.n_eq v.o.n_eq B.o)];rfl,d⟩
theorem uW (A z:QA) (n r m t:Nat) (l a:List Int) (w:World) (h:xB w A n r l) (p:xB w z m t a) :
  Calls prog 172 #[.slice A n r,.slice z m t] w fun e w'=>e=.returned (.bool (decide (l=a)))∧Below w w w':=by
 have V:n≤9223372036854775807:=lT h.cap_le h.max_le;have P:m≤9223372036854775807:=lT p.cap_le p.max_le;obtain ⟨H,v⟩:=zh2 h p;clear h p;by_cases q:n=m;rotate_left
 ·have N:((n:Int) != (m:Int))=true:=by rw [bne_iff_ne];omega
  have f:decide (l=a)=false:=by rw [decide_eq_false_iff_not];rintro rfl;exact q (H.o.n_eq.symm.trans v.o.n_eq)
  rw [f];clear q;go_in;go_wp2;go_ret;exact ⟨rfl,qB _ _⟩
 subst q;have N:((n:Int) != (n:Int))=false:=by simp
 go_in;go_wp2;go_loopw [13] (fun i wr=>∃ k:Nat,k≤n∧i=.int .i64 k∧wr.heap=w.heap∧Below w w wr∧∀ j,j < k → l.getD j 0=a.getD j 0) (fun i _=>n - (intOf i).toNat)
 case atStart=>exact ⟨0,zl _,rfl,rfl,qB _ _,fun j D=>absurd D (Nat.not_lt_zero _)⟩
 case round =>
  obtain ⟨k,U,rfl,C,d,E⟩:=hrel;have B:=zH E;clear E;by_cases c:k < n
  ·obtain ⟨b,off,rfl,_,_,T,Q⟩:=(H.o.below d (fun _ h=>h)).int_at k c;obtain ⟨S,G,rfl,_,_,M,R⟩:=(v.o.below d (fun _ h=>h)).int_at k c;have K:=zH C;clear C Q R;by_cases s:l.getD k 0=a.getD k 0
   ·rw [← s] at M;generalize F:l.getD k 0=x at *;have O:(x != x)=false:=by simp
    obtain ⟨L,J⟩:=zh2 F s;clear F s;go_wp2_with fail;go_quiet (fail);go_wp2_with fail;refine ⟨⟨k+1,by omega,by go_num,K.o,aI d _,fun j D=>?_⟩,by simp [intOf];omega⟩;by_cases g:j < k
    ·exact B.o j g
    ·obtain rfl:j=k:=oM;rw [L.o,J.o]
   ·have f:decide (l=a)=false:=by rw [decide_eq_false_iff_not];rintro rfl;exact s rfl
    have O:(l.getD k 0 != a.getD k 0)=true:=by rw [bne_iff_ne];exact s
    generalize l.getD k 0=x at *;generalize a.getD k 0=y at *;have I:=zH f;clear f s;go_wp2_with fail;go_quiet (fail);go_wp2;go_ret;exact ⟨by rw [I.o];rfl,aI d _⟩
  ·obtain rfl:k=n:=oM;go_wp2;go_ret;exact ⟨by rw [qT (lS H.o.n_eq v.o.n_eq B.o)];rfl,d⟩
open Go
theorem aq {w:World} {g off:Nat} {e:TypeId} {cs:Array Value} {vs:List Value} (o:Blk w g e cs) (a:(cs.toList.drop off).take vs.length=vs):w.rangeAt g off vs:=by
 intro j v t;rw [o.cell];rw [← a,List.getElem?_take] at t;split at t
 ·rw [List.getElem?_drop] at t;simpa using t
 ·cases t
theorem aj {P:Program} {ops:Array Oper} {C:World → Prop} {Q:Act → Prop} {a:Act} {o:Oper} {e:List Oper} (m:Region.wanted o (yielded ops a.tmps)=true) (t:TypeId) (x:Operand) (l:o.op=.load t x)
  (b off:Nat) (f:a.eval x=.pointer (some ⟨b,off,none⟩)) (cs:List Value) (d:TypeDesc) (n:∀ w,C w → w.rangeAt b off cs)
  (c:P.underlying t=some d) (r:d.isRow=true) (hi:(P.info? t).map (·.size)=some cs.length) (h:wpQuiet P ops C Q e (a.put o.dst (.agg cs.toArray))):wpQuiet P ops C Q (o :: e) a :=
 BigFrame.wpQuiet_want m fun K s=>⟨.agg cs.toArray,fun w i=>by
  unfold Oper.quietAt execOp;simp only [l,f,Instr.loadAt,Instr.sureAddr,Sem.run_bind,Sem.run_pure,Result.andThen_ok,run_loadVar_mid w b off t cs d (n w i) c r hi];exact ⟨rfl,rfl⟩,s _ h⟩
end Go.Proofs.YtbecbfpoahhpnaaGreat
namespace Go.Proofs.YtbecbfpoahhpnaaGreat.Fx
open Tryz
open Ieee
def Sd:Datum → Int → Prop
 | .number s m p,n=>m*2 ^ p.toNat=n.natAbs*2 ^ (-p).toNat∧(n ≠ 0 → s=decide (n < 0))
 | _,_=>False
theorem two_pos (k:Nat):0 < 2 ^ k:=Nat.two_pow_pos k
theorem Sd.zero {s:Bool} {m:Nat} {p:Int} (h:Sd (.number s m p) 0):m=0:=by
 have e:=h.1;have:=two_pos p.toNat;rw [show (0:Int).natAbs=0 from rfl,Nat.zero_mul] at e;rcases Nat.mul_eq_zero.1 e with h|h <;> omega
theorem log_mul (m k:Nat) (h:m ≠ 0):(m*2 ^ k).log2=m.log2+k:=by
 have t:=Nat.log2_self_le h;have a:=@Nat.lt_log2_self m;have o:=two_pos k;have e:m*2 ^ k ≠ 0:=Nat.mul_ne_zero h oM;apply Nat.le_antisymm
 ·apply Nat.le_of_lt_succ;rw [Nat.log2_lt e,show (m.log2+k).succ=(m.log2+1)+k by omega,Nat.pow_add];exact Nat.mul_lt_mul_of_pos_right a o
 ·rw [Nat.le_log2 e,Nat.pow_add];exact Nat.mul_le_mul_right _ t
theorem cut_exact (e:Toward) (t:Bool) (a d:Nat) (o:a ≠ 0):e.cut t (a*2 ^ d) d=a:=by
 have i:(a*2 ^ d).log2=a.log2+d:=log_mul a d o;unfold Toward.cut;rw [i,Nat.min_eq_left oM,Nat.one_shiftLeft];simp only [Nat.mul_mod_left,Nat.mul_div_cancel _ (two_pos d)];have:=two_pos d;cases e <;> simp <;> omega
theorem cut_zero (t:Bool) (d:Nat) (e:Toward):e.cut t 0 d=0:=by
 unfold Toward.cut;simp only [Nat.zero_mod,Nat.zero_div];have h:∀ k,0 < 1 <<< k:=fun k=>by rw [Nat.one_shiftLeft];exact two_pos k
 have:=h (min d (Nat.log2 0+2));cases e <;> simp <;> omega
theorem word_read (s:Bool) (k e:Nat) (c:2 ^ 52≤k) (m:k < 2 ^ 53) (f:e < 2000) :
  double.read (double.word s (min (e*double.binade+k) double.infRung))=.number s k (e - 1074):=by
 have t:double.signWeight=2 ^ 63:=rfl;have a:double.binade=2 ^ 52:=rfl;have hi:double.infRung=2047*2 ^ 52:=rfl;have r:double.leastPlace=-1074:=rfl;have l:min (e*double.binade+k) double.infRung=e*2 ^ 52+k:=by
  rw [a,hi];omega
 rw [l];have d:e*2 ^ 52+k < 2 ^ 63:=oM;have o:(double.word s (e*2 ^ 52+k) / 2 ^ 63 % 2 == 1)=s:=by
  unfold Format.word;rw [t];cases s <;> simp <;> omega
 have i:double.word s (e*2 ^ 52+k) % 2 ^ 63=e*2 ^ 52+k:=by
  unfold Format.word;rw [t];cases s <;> simp <;> omega
 unfold Format.read;simp only [t,a,hi,r,o,i];rw [if_neg oM,if_pos oM];have n:2 ^ 52+(e*2 ^ 52+k) % 2 ^ 52=k:=oM;have h:(e*2 ^ 52+k) / 2 ^ 52 - 1=e:=oM;rw [n,h];congr 1
theorem Sd.write {d:Datum} {n:Int} (h:Sd d n) (g:n.natAbs < 2 ^ 53):Sd (double.read (double.write d)) n:=by
 cases d with
 | infinity s=>exact h.elim
 | nan s t=>exact h.elim
 | number s m p =>
 show Sd (double.read (double.nearest s m p)) n;by_cases i:m=0
 ·subst i;have v:n=0:=by
   have:=h.1;have B:=two_pos (-p).toNat;rw [Nat.zero_mul] at this;rcases Nat.mul_eq_zero.1 this.symm with h|h <;> omega
  subst v;unfold Format.nearest;rw [if_pos rfl];have x:double.read (double.word s 0)=.number s 0 (-1074):=by cases s <;> rfl
  rw [x];refine ⟨?_,fun h=>absurd rfl h⟩;rw [show (0:Int).natAbs=0 from rfl,Nat.zero_mul,Nat.zero_mul]
 ·have v:n ≠ 0:=by
   rintro rfl;exact i h.zero
  obtain ⟨a,q⟩:=h;have r:n.natAbs ≠ 0:=oM;generalize f:n.natAbs=N at *;have y:m.log2+p.toNat=N.log2+(-p).toNat:=by
   rw [← log_mul m _ i,a,log_mul N _ r]
  have A:N.log2 < 53:=(Nat.log2_lt r).2 g;have w:double.leastPlace=-1074:=rfl;unfold Format.nearest;rw [if_neg i];have e:max (p+(m.log2:Int) - ((double.fractionBits:Nat):Int)) double.leastPlace=(N.log2:Int) - 52:=by
   rw [w,show double.fractionBits=52 from rfl];omega
  simp only [e];have j:Toward.even.cut s (m <<< (p - ((N.log2:Int) - 52)).toNat) (((N.log2:Int) - 52) - p).toNat=N*2 ^ (52 - N.log2):=by
   by_cases c:p≤(N.log2:Int) - 52
   ·have l:(p - ((N.log2:Int) - 52)).toNat=0:=oM;have b:p.toNat=0:=oM;rw [b,Nat.pow_zero,Nat.mul_one] at a;rw [l,Nat.shiftLeft_zero,a,show (-p).toNat=(52 - N.log2)+(((N.log2:Int) - 52) - p).toNat by omega,Nat.pow_add,← Nat.mul_assoc];exact cut_exact _ _ _ _ (Nat.mul_ne_zero r (by have:=two_pos (52 - N.log2);omega))
   ·have l:(((N.log2:Int) - 52) - p).toNat=0:=oM;rw [l,Nat.shiftLeft_eq];have:=cut_exact .even s (m*2 ^ (p - ((N.log2:Int) - 52)).toNat) 0 (Nat.mul_ne_zero i (by have:=two_pos (p - ((N.log2:Int) - 52)).toNat;omega));rw [Nat.pow_zero,Nat.mul_one] at this;rw [this];by_cases z:0≤p
    ·rw [show (p - ((N.log2:Int) - 52)).toNat=p.toNat+(52 - N.log2) by omega,Nat.pow_add,← Nat.mul_assoc,a,show (-p).toNat=0 by omega,Nat.pow_zero,Nat.mul_one]
    ·rw [show p.toNat=0 by omega,Nat.pow_zero,Nat.mul_one] at a;rw [a,Nat.mul_assoc,← Nat.pow_add];congr 2;omega
  rw [j];have k1:2 ^ 52≤N*2 ^ (52 - N.log2):=by
   have:=Nat.log2_self_le r;have o:=Nat.mul_le_mul_right (2 ^ (52 - N.log2)) this;rw [← Nat.pow_add,show N.log2+(52 - N.log2)=52 by omega] at o;exact o
  have k2:N*2 ^ (52 - N.log2) < 2 ^ 53:=by
   have:=@Nat.lt_log2_self N;have o:=Nat.mul_lt_mul_of_pos_right this (two_pos (52 - N.log2));rw [← Nat.pow_add,show N.log2+1+(52 - N.log2)=53 by omega] at o;exact o
  have k:(((N.log2:Int) - 52) - double.leastPlace).toNat=N.log2+1022:=by rw [w];omega
  rw [k,word_read s _ _ k1 k2 oM];refine ⟨?_,q⟩;rw [f,show (((N.log2+1022:Nat):Int) - 1074).toNat=0 by omega,show (-(((N.log2+1022:Nat):Int) - 1074)).toNat=52 - N.log2 by omega,Nat.pow_zero,Nat.mul_one]
theorem Sd.opposite {d:Datum} {n:Int} (h:Sd d n):Sd d.opposite (-n):=by
 cases d with
 | infinity s=>exact h.elim
 | nan s t=>exact h.elim
 | number s m p =>
  refine ⟨by rw [Int.natAbs_neg];exact h.1,fun e=>?_⟩;have:=h.2 oM;rw [this];by_cases c:n < 0
  ·simp [c];omega
  ·simp [c];omega
theorem Sd.at_base {s:Bool} {m:Nat} {p:Int} {n:Int} (h:Sd (.number s m p) n) (b:Int) (f:b≤p) :
  signed s m (p - b).toNat*2 ^ b.toNat=n*2 ^ (-b).toNat:=by
 have o:(m*2 ^ (p - b).toNat)*2 ^ b.toNat=n.natAbs*2 ^ (-b).toNat:=by
  have a:=h.1;by_cases c:0≤b
  ·rw [Nat.mul_assoc,← Nat.pow_add,show (p - b).toNat+b.toNat=p.toNat by omega,a,show (-p).toNat=0 by omega,show (-b).toNat=0 by omega]
  ·by_cases l:0≤p
   ·rw [show b.toNat=0 by omega,Nat.pow_zero,Nat.mul_one,show (p - b).toNat=p.toNat+(-b).toNat by omega,Nat.pow_add,← Nat.mul_assoc,a,show (-p).toNat=0 by omega,Nat.pow_zero,Nat.mul_one]
   ·rw [show p.toNat=0 by omega,Nat.pow_zero,Nat.mul_one] at a;rw [a,show b.toNat=0 by omega,Nat.pow_zero,Nat.mul_one,Nat.mul_assoc,← Nat.pow_add];congr 2;omega
 have d:n=0 → m=0:=fun e=>by subst e;exact h.zero
 unfold signed;rw [Nat.shiftLeft_eq];have t:((m*2 ^ (p - b).toNat:Nat):Int)*2 ^ b.toNat=(n.natAbs:Int)*2 ^ (-b).toNat:=by
  have:=congrArg (fun x:Nat=>(x:Int)) o;simpa [Int.natCast_mul,Int.natCast_pow] using this
 by_cases c:n=0
 ·have:=d c;subst c this;simp
 ·have r:=h.2 c;by_cases i:n < 0
  ·rw [if_pos (by simp [r,i]),Int.neg_mul,t,show (n.natAbs:Int)=-n by omega,Int.neg_mul,Int.neg_neg]
  ·rw [if_neg (by simp [r,i]),t,show (n.natAbs:Int)=n by omega]
theorem Sd.of_signed {t:Int} {b:Int} {n:Int} {s:Bool} (h:t*2 ^ b.toNat=n*2 ^ (-b).toNat) (r:t ≠ 0 → s=decide (t < 0)) :
  Sd (.number s t.natAbs b) n:=by
 have a:=congrArg Int.natAbs h;rw [Int.natAbs_mul,Int.natAbs_mul,Int.natAbs_pow,Int.natAbs_pow] at a;refine ⟨a,fun l=>?_⟩;have o:(0:Int) < 2 ^ b.toNat:=Int.pow_pos oM;have i:(0:Int) < 2 ^ (-b).toNat:=Int.pow_pos oM;have d:t ≠ 0:=by
  rintro rfl;rw [Int.zero_mul] at h;rcases Int.mul_eq_zero.1 h.symm with h|h <;> omega
 rw [r d];congr 1;apply propext;constructor
 ·intro c;have:n*2 ^ (-b).toNat < 0:=h ▸ Int.mul_neg_of_neg_of_pos c o;apply Int.not_le.1;intro e;have:=Int.mul_nonneg e (Int.le_of_lt i);omega
 ·intro c;have:t*2 ^ b.toNat < 0:=h ▸ Int.mul_neg_of_neg_of_pos c i;apply Int.not_le.1;intro e;have:=Int.mul_nonneg e (Int.le_of_lt o);omega
theorem Sd.sum {d e:Datum} {m n:Int} (h:Sd d m) (k:Sd e n):∃ f,d.sum e=some f∧Sd f (m+n):=by
 cases d with
 | infinity s=>exact h.elim
 | nan s t=>exact h.elim
 | number s a p =>
 cases e with
 | infinity s=>exact k.elim
 | nan s t=>exact k.elim
 | number t b q =>
  refine ⟨_,rfl,?_⟩;have i:=h.at_base (min p q) oM;have r:=k.at_base (min p q) oM;refine Sd.of_signed (by rw [Int.add_mul,i,r,Int.add_mul]) (fun o=>?_);rw [if_neg o]
theorem Sd.product {d e:Datum} {m n:Int} (h:Sd d m) (k:Sd e n):∃ f,d.product e=some f∧Sd f (m*n):=by
 cases d with
 | infinity s=>exact h.elim
 | nan s t=>exact h.elim
 | number s a p =>
 cases e with
 | infinity s=>exact k.elim
 | nan s t=>exact k.elim
 | number t b q =>
  refine ⟨_,rfl,?_,fun r=>?_⟩
  ·have l:=h.1;have w:=k.1;rw [Int.natAbs_mul];apply Nat.eq_of_mul_eq_mul_right (two_pos ((-p).toNat+(-q).toNat));have g:a*b*2 ^ (p+q).toNat*2 ^ ((-p).toNat+(-q).toNat)=(a*2 ^ p.toNat)*(b*2 ^ q.toNat)*2 ^ (-(p+q)).toNat:=by
    have:2 ^ (p+q).toNat*2 ^ ((-p).toNat+(-q).toNat)=2 ^ p.toNat*2 ^ q.toNat*2 ^ (-(p+q)).toNat:=by
     rw [← Nat.pow_add,← Nat.pow_add,← Nat.pow_add];congr 1;omega
    calc _=a*b*(2 ^ (p+q).toNat*2 ^ ((-p).toNat+(-q).toNat)):=by rw [Nat.mul_assoc]
     _=a*b*(2 ^ p.toNat*2 ^ q.toNat*2 ^ (-(p+q)).toNat):=by rw [this]
     _=_:=by ac_rfl
   rw [g,l,w,Nat.pow_add]
   ac_rfl
  ·have y:m ≠ 0:=fun c=>r (by rw [c,Int.zero_mul]);have v:n ≠ 0:=fun c=>r (by rw [c,Int.mul_zero]);rw [h.2 y,k.2 v];by_cases o:m < 0 <;> by_cases i:n < 0
   ·have:=Int.mul_pos_of_neg_of_neg o i;simp [o,i];omega
   ·have:=Int.mul_neg_of_neg_of_pos o (show 0 < n by omega);simp [o,i,this]
   ·have:=Int.mul_neg_of_pos_of_neg (show 0 < m by omega) i;simp [o,i,this]
   ·have:=Int.mul_pos (show 0 < m by omega) (show 0 < n by omega);simp [o,i];omega
theorem Sd.toInt {d:Datum} {n:Int} (h:Sd d n):d.toInt .zero=some n:=by
 cases d with
 | infinity s=>exact h.elim
 | nan s t=>exact h.elim
 | number s m p =>
  have a:Toward.zero.cut s (m <<< p.toNat) (-p).toNat=n.natAbs:=by
   rw [Nat.shiftLeft_eq,h.1];by_cases c:n=0
   ·subst c;rw [show (0:Int).natAbs=0 from rfl,Nat.zero_mul];exact cut_zero _ _ _
   ·exact cut_exact _ _ _ _ oM
  show some (signed s (Toward.zero.cut s (m <<< p.toNat) (-p).toNat) 0)=some n;rw [a];unfold signed;rw [Nat.shiftLeft_zero];by_cases c:n=0
  ·subst c;simp
  ·rw [h.2 c];by_cases e:n < 0
   ·simp [e];omega
   ·simp [e];omega
def Rd (x:Nat) (n:Int):Prop:=Sd (double.read x) n
theorem Rd.add {x y:Nat} {m n:Int} (h:Rd x m) (k:Rd y n) (t:(m+n).natAbs < 2 ^ 53):∃ r,floatBits .add .f64 x y=some r∧Rd r (m+n):=by
 obtain ⟨f,e,a⟩:=Sd.sum h k;refine ⟨double.write f,?_,a.write t⟩;show ((double.read x).sum (double.read y)).map double.write=_;rw [e];rfl
theorem Rd.sub {x y:Nat} {m n:Int} (h:Rd x m) (k:Rd y n) (a:(m - n).natAbs < 2 ^ 53):∃ r,floatBits .sub .f64 x y=some r∧Rd r (m - n):=by
 obtain ⟨f,e,t⟩:=Sd.sum h (Sd.opposite k);rw [← Int.sub_eq_add_neg] at t;refine ⟨double.write f,?_,t.write a⟩;show ((double.read x).sum (double.read y).opposite).map double.write=_;rw [e];rfl
theorem Rd.mul {x y:Nat} {m n:Int} (h:Rd x m) (k:Rd y n) (t:(m*n).natAbs < 2 ^ 53):∃ r,floatBits .mul .f64 x y=some r∧Rd r (m*n):=by
 obtain ⟨f,e,a⟩:=Sd.product h k;refine ⟨double.write f,?_,a.write t⟩;show ((double.read x).product (double.read y)).map double.write=_;rw [e];rfl
theorem Rd.nearest (n:Int) (e:n.natAbs < 2 ^ 53):Rd (FloatKind.f64.nearest n) n :=
 Sd.write (d:=.number (n < 0) n.natAbs 0) (n:=n) ⟨by simp,fun _=>rfl⟩ e
theorem Rd.int {x:Nat} {n:Int} (h:Rd x n) (a:-2 ^ 63≤n) (o:n < 2 ^ 63):floatToIntVal .f64 x .i64=some n:=by
 unfold floatToIntVal;show (match (double.read x).toInt .zero with|some n=>if IntKind.i64.min≤n∧n≤IntKind.i64.max then some n else none|none=>none)=_;rw [Sd.toInt h];show (if IntKind.i64.min≤n∧n≤IntKind.i64.max then some n else none)=some n;have e:IntKind.i64.min=-2 ^ 63:=rfl;have t:IntKind.i64.max=2 ^ 63 - 1:=rfl;rw [e,t,if_pos ⟨a,by omega⟩]
def Cd (x:Nat × Nat) (z:Int × Int):Prop:=Rd x.1 z.1∧Rd x.2 z.2
def cadd (a b:Int × Int):Int × Int:=(a.1+b.1,a.2+b.2)
def cmul (a b:Int × Int):Int × Int:=(a.1*b.1 - a.2*b.2,a.1*b.2+a.2*b.1)
def Cb (z:Int × Int) (n:Nat):Prop:=z.1.natAbs≤n∧z.2.natAbs≤n
theorem Cd.add {a b c d:Nat} {y z:Int × Int} (h:Cd (a,b) y) (k:Cd (c,d) z) (o:Cb (cadd y z) (2 ^ 53 - 1)) :
  ∃ s n,cSumBits .add .f64 a b c d=some (s,n)∧Cd (s,n) (cadd y z):=by
 obtain ⟨r,e,l⟩:=Rd.add h.1 k.1 (by have:=o.1;simp only [cadd] at this;omega);obtain ⟨i,t,m⟩:=Rd.add h.2 k.2 (by have:=o.2;simp only [cadd] at this;omega);refine ⟨r,i,?_,l,m⟩;unfold cSumBits;simp only at e t;rw [e,t];rfl
theorem natAbs_mul_le {a b:Int} {m n:Nat} (h:a.natAbs≤m) (k:b.natAbs≤n):(a*b).natAbs≤m*n:=by
 rw [Int.natAbs_mul];exact Nat.mul_le_mul h k
theorem Cb.cmul {y z:Int × Int} {m n:Nat} (e:Cb y m) (t:Cb z n):Cb (cmul y z) (2*(m*n)):=by
 have a:=natAbs_mul_le e.1 t.1;have o:=natAbs_mul_le e.2 t.2;have i:=natAbs_mul_le e.1 t.2;have s:=natAbs_mul_le e.2 t.1;constructor
 ·show (y.1*z.1 - y.2*z.2).natAbs≤_;omega
 ·show (y.1*z.2+y.2*z.1).natAbs≤_;omega
theorem Cb.cadd {y z:Int × Int} {m n:Nat} (e:Cb y m) (t:Cb z n):Cb (cadd y z) (m+n):=by
 obtain ⟨a,b⟩:=e;obtain ⟨c,d⟩:=t;exact ⟨by show (y.1+z.1).natAbs≤_;omega,by show (y.2+z.2).natAbs≤_;omega⟩
theorem Cb.le {z:Int × Int} {m n:Nat} (h:Cb z m) (k:m≤n):Cb z n:=⟨lT h.1 k,lT h.2 k⟩
theorem Cd.mul {a b c d:Nat} {y z:Int × Int} {m n:Nat} (h:Cd (a,b) y) (k:Cd (c,d) z) (e:Cb y m) (t:Cb z n) (K:2*(m*n) < 2 ^ 53) :
  ∃ i o,cMulBits a b c d=some (i,o)∧Cd (i,o) (cmul y z):=by
 have w:=e.cmul t;have G:=natAbs_mul_le e.1 t.1;have H:=natAbs_mul_le e.2 t.2;have I:=natAbs_mul_le e.1 t.2;have J:=natAbs_mul_le e.2 t.1;obtain ⟨C,s,g⟩:=Rd.mul h.1 k.1 oM;obtain ⟨F,r,j⟩:=Rd.mul h.2 k.2 oM;obtain ⟨D,l,q⟩:=Rd.mul h.1 k.2 oM;obtain ⟨E,f,x⟩:=Rd.mul h.2 k.1 oM;obtain ⟨i,p,A⟩:=Rd.sub g j (by have:=w.1;simp only [Fx.cmul] at this;omega);obtain ⟨o,v,B⟩:=Rd.add q x (by have:=w.2;simp only [Fx.cmul] at this;omega);refine ⟨i,o,?_,A,B⟩;unfold cMulBits;simp only at s r l f;rw [s,r];simp only [Option.bind_some];rw [p];simp only [Option.bind_some];rw [l,f];simp only [Option.bind_some];rw [v];rfl
end Go.Proofs.YtbecbfpoahhpnaaGreat.Fx
namespace Go.Proofs.YtbecbfpoahhpnaaGreat
open Go.RowKit Go.ChangeShapes Go.WideShapes Tryz
def gY (v lo hi:Int):Int:=if v < lo then lo else if v > hi then hi else v
theorem Bg (v lo hi:Int) (w:World):Calls prog 216 (sN v lo hi) w fun e w'=>e=.returned (.int .i64 (gY v lo hi))∧w=w':=by
 unfold gY;by_cases t:v < lo
 ·rw [if_pos t];go_in;go_wp2;go_ret;exact ⟨rfl,rfl⟩
 ·rw [if_neg t];by_cases a:v > hi
  ·rw [if_pos a];go_in;go_wp2;go_ret;exact ⟨rfl,rfl⟩
  ·rw [if_neg a];go_in;go_wp2;go_ret;exact ⟨rfl,rfl⟩
theorem rd (v lo hi:Int) (w:World):Calls prog 167 (sN v lo hi) w fun e w'=>e=.returned (.int .i64 (gY v lo hi))∧w=w':=by
 unfold gY;by_cases t:v < lo
 ·rw [if_pos t];go_in;go_wp2;go_ret;exact ⟨rfl,rfl⟩
 ·rw [if_neg t];by_cases a:v > hi
  ·rw [if_pos a];go_in;go_wp2;go_ret;exact ⟨rfl,rfl⟩
  ·rw [if_neg a];go_in;go_wp2;go_ret;exact ⟨rfl,rfl⟩
def w8 (v:Int):Int:=IntKind.i8.wrap v
theorem xW (n:Int):w8 n=(n+128) % 256 - 128:=by
 unfold w8 IntKind.wrap;simp [IntKind.bits,IntKind.signed];split <;> omega
theorem sR (n:Int):InK .i8 (w8 n):=by rw [bj,xW];omega
theorem qN (v lo hi:Int) (w:World) (t:InK .i8 lo) (a:InK .i8 hi):Calls prog 186 #[.int .i64 v,.int .i8 lo,.int .i8 hi] w fun e w'=>e=.returned (.int .i8 (w8 (gY v lo hi)))∧w=w':=by
 rw [bj] at t a;obtain ⟨o,i⟩:=t;obtain ⟨n,s⟩:=a;go_in
 go_wp2_with (go_at_call 216;refine (Bg _ _ _ _).mono ?_;rintro e h ⟨rfl,rfl⟩)
 go_ret;exact ⟨rfl,rfl⟩
open Go
theorem gE {P:Program} {a:Act} {w:World} {Q:Exit → Act → World → Prop} {c t:Code} (l:Nat) (r:findLabel c l=some t)
  (first:c.wp P (Exit.jump l (fun n w'=>t.wp P (Exit.noGoto Q) n w') Q) a w):(Code.scope c).wp P Q a w:=by
 refine wp_scope_jumps l _ (fun _ _=>0) r first fun n w' h=>?_
 intro b k cs;obtain ⟨e,s,d,o,i⟩:=h b k cs;refine ⟨e,s,d,?_,i⟩;cases e with
 | goto l'=>exact o.elim
 | normal=>exact o
 | exit id=>exact o
 | ret=>exact o
 | panic ch=>exact o
 | outgrown=>exact o
theorem av (h v c:Int) (A:QA) (n t:Nat) (w:World) (s:InK .i64 h) (r:InK .i64 v) (d:InK .i64 c) (k:n≤maxLen) :
  Calls prog 58 #[.agg (tN h v c A n t)] w fun e w'=>e=.returned (.bool (decide (0 < ag h v c∧ag h v c=n)))∧Below w w w':=by
 obtain ⟨f,y,b⟩:=zh3 s r d;unfold maxLen at k;clear s r d;go_in;go_wp2_with fail;refine qM (bL h c v _ f.o y.o b.o) fun w' a=>?_;have j:=gT a (p:=⟨w.heap.size,3,none⟩) (v:=.slice A n t) (by simp [go_sem]) sM;generalize l:ag h v c=m at *;have i:=zH l;clear l;by_cases g:0 < m
 ·go_wp2;go_ret;exact ⟨aC (by rw [i.o,Bool.eq_iff_iff];simp [g]),((qB _ _).alloc (lR _) _).trans (a.mono sM)⟩
 ·go_wp2;go_ret;exact ⟨aC (by rw [i.o,Bool.eq_iff_iff];simp;omega),((qB _ _).alloc (lR _) _).trans (a.mono sM)⟩
def ae.ok (t:ae):Bool:=decide (0 < ag t.h t.v t.c∧ag t.h t.v t.c=t.data.length)
theorem Sl.far {α:Type} {t:Ty α} {w:World} {S:Nat → Prop} {A:QA} {n e:Nat} {l:List α} (h:Sl t w S A n e l) (p:Addr) (u:Value) (o:∀ b,S b → b ≠ p.block):Sl t (w.setCell p u) S A n e l :=
 h.keep fun b a=>Below.heap_setCell w p u b (o b a)
section
variable {P:Program} {ops:Array Oper} {Q:Exit → Act → World → Prop} {md:Region.Mode} {C:World → Prop} {k0:Nat}
theorem sw {i m:Nat} {D:Oper} {v:Value} (hi:ops[i]?=some D) (z:∀ (j:Nat) (o:Oper) cs b,ops[j]?=some o → o.op ≠ .select cs b)
  (hQ:∀ c a w,Q (.panic c) (a.put D.dst v) w → Q (.panic c) a w) (hw:Region.waitsFor md ops k0 m=true) (an:Region.waitsFor md ops m i=true) (F:i ≠ k0) :
  ∀ (fuel:Nat) (t:Array Bool) (a:Act) (w:World),t.getD m true=false →
   (∀ j p,ops[j]?=some p → j ≠ i → t.getD j true=false → (∀ e ∈ p.after,Region.binds md e=true → e.on ≠ i) → D.apart ops p=true) →
   i ∈ Region.ready md ops t → YieldsIf P ops C D v a → C w →
   aS P md ops Q C k0 fuel (t.setIfInBounds i true) (a.put D.dst v) w → aS P md ops Q C k0 (fuel+1) t a w:=by
 obtain ⟨ah,G,ek,R,N,Z⟩:=Region.waitsFor_spec hw;obtain ⟨om,Y,em,S,O,I⟩:=Region.waitsFor_spec an;intro fuel
 induction fuel with
 | zero =>
  intro t a w _ _ B M E H;refine ⟨fun h=>(by rw [h] at B;cases B),fun j L=>?_⟩;by_cases s:j=i
  ·subst s;rw [show (fun n w'=>if j=k0 then wpAny P md ops Q 0 (t.setIfInBounds j true) n w' else C w'∧aS P md ops Q C k0 0 (t.setIfInBounds j true) n w')=(fun n w'=>C w'∧aS P md ops Q C k0 0 (t.setIfInBounds j true) n w') from by funext n w';rw [if_neg F]];exact M.wpOp hi E ⟨E,H⟩
  ·have:=ready_mono L s;rw [H.1] at this;cases this
 | succ fuel ih =>
  intro t a w W d B M E H;refine ⟨fun h=>(by rw [h] at B;cases B),fun j L=>?_⟩;by_cases s:j=i
  ·subst s;rw [show (fun n w'=>if j=k0 then wpAny P md ops Q (fuel+1) (t.setIfInBounds j true) n w' else C w'∧aS P md ops Q C k0 (fuel+1) (t.setIfInBounds j true) n w')=(fun n w'=>C w'∧aS P md ops Q C k0 (fuel+1) (t.setIfInBounds j true) n w') from by funext n w';rw [if_neg F]];exact M.wpOp hi E ⟨E,H⟩
  ·obtain ⟨q,p,f,g⟩:=mem_ready.1 L;have x:∀ e ∈ p.after,Region.binds md e=true → e.on ≠ i:=fun e he hb T=>by
    have r:=g e he hb;have h0:=(mem_ready.1 B).1;rw [T] at r;rcases Nat.lt_or_ge i t.size with A|A
    ·simp [A] at h0 r;rw [h0] at r;cases r
    ·simp [Array.getElem?_eq_none A] at r
   have l:j ≠ k0:=fun e=>by
    subst e;have:ah=p:=sI (G.symm.trans f);subst this;have r:=g ek R N;rw [Z] at r;rcases Nat.lt_or_ge m t.size with A|A
    ·simp [A] at W r;rw [W] at r;cases r
    ·simp [Array.getElem?_eq_none A] at r
   have U:j ≠ m:=fun e=>by
    subst e;have:om=p:=sI (Y.symm.trans f);subst this;exact x em S O I
   have r:=H.2 j (ready_mono L s);rw [show (fun n w'=>if j=k0 then wpAny P md ops Q fuel ((t.setIfInBounds i true).setIfInBounds j true) n w' else C w'∧aS P md ops Q C k0 fuel ((t.setIfInBounds i true).setIfInBounds j true) n w')=(fun n w'=>C w'∧aS P md ops Q C k0 fuel ((t.setIfInBounds i true).setIfInBounds j true) n w') from by funext n w';rw [if_neg l]] at r;rw [show (fun n w'=>if j=k0 then wpAny P md ops Q (fuel+1) (t.setIfInBounds j true) n w' else C w'∧aS P md ops Q C k0 (fuel+1) (t.setIfInBounds j true) n w')=(fun n w'=>C w'∧aS P md ops Q C k0 (fuel+1) (t.setIfInBounds j true) n w') from by funext n w';rw [if_neg l]];have h2:=wpOp_putIf f (d j p f s q x) (fun cs b=>z i D cs b hi) (fun cs b=>z j p cs b f) hQ M r;have y:∀ k ok,ops[k]?=some ok → k ≠ i → (t.setIfInBounds j true).getD k true=false →
     (∀ e ∈ ok.after,Region.binds md e=true → e.on ≠ i) → D.apart ops ok=true:=fun k ok hk V J X=>by
    refine d k ok hk V ?_ X;by_cases l:j=k
    ·subst l;exact q
    ·rw [getD_set_ne true l] at J;exact J
   refine wpOp_mono (fun n w' K=>⟨K.2.1,ih (t.setIfInBounds j true) n w' (by rw [getD_set_ne true U];exact W) y (ready_mono B (Ne.symm s)) K.1 K.2.1 ?_⟩) h2;rw [Array.setIfInBounds_comm _ _ s];exact K.2.2
theorem mC (m:Nat) {i:Nat} {t:Oper} {v:Value} {fuel:Nat} {e:Array Bool} {a:Act} {w:World} (hi:ops[i]?=some t)
  (y:Region.noSelect ops=true) (d:Region.free md ops e i=true) (f:(Region.ready md ops e).contains i=true) (p:Region.waitsFor md ops k0 m=true) (n:Region.waitsFor md ops m i=true) (l:e.getD m true=false) (o:(i == k0)=false)
  (s:∀ c a w,Q (.panic c) (a.put t.dst v) w → Q (.panic c) a w) (b:YieldsIf P ops C t v a) (r:C w)
  (h:aS P md ops Q C k0 fuel (e.setIfInBounds i true) (a.put t.dst v) w):aS P md ops Q C k0 (fuel+1) e a w :=
 sw hi (Region.noSelect_spec y) s p n (by simpa using o) fuel e a w l (Region.free_spec hi d) (by simpa using f) b r h
end
theorem iN:EI prog 58 3 (.int .i64 0) 1 8:=⟨underlying58,by kernel_rfl,rfl,by decide⟩
structure Pt where
 model:Int
 block:Int
 spent:Int
 input:ae
 value:ae
def qd:Pt:=⟨0,0,0,ak,ak⟩
def kF (p:Pt) (A:QA) (n c:Nat) (B:QA) (m d:Nat):Array Value :=
 #[.int .i64 p.model,.int .i64 p.block,.int .i64 p.spent,.int .i64 p.input.h,.int .i64 p.input.v,.int .i64 p.input.c,.slice A n c,.int .i64 p.value.h,.int .i64 p.value.v,.int .i64 p.value.c,.slice B m d]
end Go.Proofs.YtbecbfpoahhpnaaGreat
namespace Go.Proofs.YtbecbfpoahhpnaaGreat.Fx
open Tryz
abbrev Wd:=Nat × Nat
def mulW (x y:Wd):Wd:=(cMulBits x.1 x.2 y.1 y.2).getD (0,0)
def addW (x y:Wd):Wd:=(cSumBits .add .f64 x.1 x.2 y.1 y.2).getD (0,0)
def turnW (q x:Wd):Nat → Wd
 | 0=>x
 | k+1=>mulW (turnW q x k) q
def sumW (q:Wd) (f:Nat → Wd) (k:Nat):Nat → Wd
 | 0=>(0,0)
 | j+1=>addW (sumW q f k j) (turnW q (f j) ((j*k) % 4))
def sumsW (q:Wd) (f:Nat → Wd):Nat → Wd:=fun k=>sumW q f k 4
def turnZ (q x:Int × Int):Nat → Int × Int
 | 0=>x
 | k+1=>cmul (turnZ q x k) q
def sumZ (q:Int × Int) (f:Nat → Int × Int) (k:Nat):Nat → Int × Int
 | 0=>(0,0)
 | j+1=>cadd (sumZ q f k j) (turnZ q (f j) ((j*k) % 4))
def sumsZ (q:Int × Int) (f:Nat → Int × Int):Nat → Int × Int:=fun k=>sumZ q f k 4
theorem mulW_ok {x y:Wd} {a b:Int × Int} {m n:Nat} (h:Cd x a) (k:Cd y b) (i:Cb a m) (s:Cb b n) (t:2*(m*n) < 2 ^ 53) :
  cMulBits x.1 x.2 y.1 y.2=some ((mulW x y).1,(mulW x y).2)∧Cd (mulW x y) (cmul a b):=by
 obtain ⟨l,r,e,o⟩:=Cd.mul (a:=x.1) (b:=x.2) (c:=y.1) (d:=y.2) h k i s t;have:mulW x y=(l,r):=by unfold mulW;rw [e];rfl
 rw [this];exact ⟨e,o⟩
theorem addW_ok {x y:Wd} {a b:Int × Int} (h:Cd x a) (k:Cd y b) (t:Cb (cadd a b) (2 ^ 53 - 1)) :
  cSumBits .add .f64 x.1 x.2 y.1 y.2=some ((addW x y).1,(addW x y).2)∧Cd (addW x y) (cadd a b):=by
 obtain ⟨n,i,e,o⟩:=Cd.add (a:=x.1) (b:=x.2) (c:=y.1) (d:=y.2) h k t;have:addW x y=(n,i):=by unfold addW;rw [e];rfl
 rw [this];exact ⟨e,o⟩
def Quarter (q:Int × Int):Prop:=q=(0,1) ∨ q=(0,-1)
theorem Quarter.cb {q:Int × Int} (h:Quarter q):Cb q 1:=by rcases h with rfl|rfl <;> exact ⟨by decide,by decide⟩
theorem Quarter.mul {q z:Int × Int} {n:Nat} (h:Quarter q) (e:Cb z n):Cb (cmul z q) n:=by
 obtain ⟨a,b⟩:=z;obtain ⟨t,o⟩:=e;rcases h with rfl|rfl
 ·refine ⟨?_,?_⟩ <;> simp only [cmul] <;> omega
 ·refine ⟨?_,?_⟩ <;> simp only [cmul] <;> omega
theorem turn_ok {q:Wd} {e:Int × Int} {x:Wd} {z:Int × Int} {n:Nat} (o:Cd q e) (t:Quarter e) (i:Cd x z) (s:Cb z n) (r:n < 2 ^ 51) :
  ∀ k,Cd (turnW q x k) (turnZ e z k)∧Cb (turnZ e z k) n
 | 0=>⟨i,s⟩
 | k+1=>by
  obtain ⟨h,a⟩:=turn_ok o t i s r k;exact ⟨(mulW_ok h o a t.cb oM).2,t.mul a⟩
theorem turn_mul {q:Wd} {s:Int × Int} {x:Wd} {z:Int × Int} {n:Nat} (t:Cd q s) (e:Quarter s) (o:Cd x z) (i:Cb z n) (a:n < 2 ^ 51) (k:Nat) :
  cMulBits (turnW q x k).1 (turnW q x k).2 q.1 q.2=some ((turnW q x (k+1)).1,(turnW q x (k+1)).2) :=
 (mulW_ok (turn_ok t e o i a k).1 t (turn_ok t e o i a k).2 e.cb oM).1
theorem rd_zero:Rd 0 0:=Rd.nearest 0 dM
theorem cd_zero:Cd (0,0) (0,0):=⟨rd_zero,rd_zero⟩
theorem sum_ok {q:Wd} {e:Int × Int} {f:Nat → Wd} {z:Nat → Int × Int} {n:Nat} (o:Cd q e) (t:Quarter e) (s:∀ i,i < 4 → Cd (f i) (z i)) (h:∀ i,i < 4 → Cb (z i) n) (m:n < 2 ^ 50) (k:Nat) :
  ∀ j,j≤4 → Cd (sumW q f k j) (sumZ e z k j)∧Cb (sumZ e z k j) (j*n)
 | 0,_=>⟨cd_zero,⟨by simp [sumZ],by simp [sumZ]⟩⟩
 | j+1,hj=>by
  obtain ⟨r,d⟩:=sum_ok o t s h m k j oM;obtain ⟨l,c⟩:=turn_ok o t (s j oM) (h j oM) oM ((j*k) % 4);have a:=d.cadd c;have w:j*n+n≤4*n:=by
   have:=Nat.mul_le_mul_right n hj;rw [Nat.succ_mul] at this;exact this
  exact ⟨(addW_ok r l (a.le oM)).2,by rw [Nat.succ_mul];exact a⟩
theorem sum_add {q:Wd} {s:Int × Int} {f:Nat → Wd} {z:Nat → Int × Int} {n:Nat} (t:Cd q s) (e:Quarter s) (a:∀ i,i < 4 → Cd (f i) (z i)) (o:∀ i,i < 4 → Cb (z i) n) (m:n < 2 ^ 50) (k j:Nat) (y:j < 4) :
  cSumBits .add .f64 (sumW q f k j).1 (sumW q f k j).2 (turnW q (f j) ((j*k) % 4)).1 (turnW q (f j) ((j*k) % 4)).2=some ((sumW q f k (j+1)).1,(sumW q f k (j+1)).2):=by
 obtain ⟨h,r⟩:=sum_ok t e a o m k j oM;obtain ⟨d,l⟩:=turn_ok t e (a j oM) (o j oM) oM ((j*k) % 4);have c:=r.cadd l;have w:j*n+n≤4*n:=by
  have:=Nat.mul_le_mul_right n (show j+1≤4 by omega);rw [Nat.succ_mul] at this;exact this
 exact (addW_ok h d (c.le oM)).1
theorem sums_ok {q:Wd} {e:Int × Int} {f:Nat → Wd} {z:Nat → Int × Int} {n:Nat} (o:Cd q e) (t:Quarter e) (s:∀ i,i < 4 → Cd (f i) (z i)) (h:∀ i,i < 4 → Cb (z i) n) (a:n < 2 ^ 50) (k:Nat) :
  Cd (sumsW q f k) (sumsZ e z k)∧Cb (sumsZ e z k) (4*n):=sum_ok o t s h a k 4 (lR _)
def rightW:Wd:=(0,13830554455654793216)
def leftW:Wd:=(0,4607182418800017408)
theorem rd_m1:Rd 13830554455654793216 (-1):=by
 have h:=Rd.nearest (-1) dM;rwa [show FloatKind.f64.nearest (-1)=13830554455654793216 by kernel_rfl] at h
theorem rd_1:Rd 4607182418800017408 1:=by
 have h:=Rd.nearest 1 dM;rwa [show FloatKind.f64.nearest 1=4607182418800017408 by kernel_rfl] at h
theorem cd_right:Cd rightW (0,-1):=⟨rd_zero,rd_m1⟩
theorem cd_left:Cd leftW (0,1):=⟨rd_zero,rd_1⟩
def inW (l:Nat → Int):Nat → Wd:=fun i=>(FloatKind.f64.nearest (l i),0)
def ofW (l:Nat → Int):Nat → Wd:=sumsW rightW (inW l)
def ofZ (l:Nat → Int):Nat → Int × Int:=sumsZ (0,-1) (fun i=>(l i,0))
def timesW (f g:Nat → Wd):Nat → Wd:=fun i=>mulW (f i) (g i)
def plusW (f g:Nat → Wd):Nat → Wd:=fun i=>addW (f i) (g i)
theorem in_ok {l:Nat → Int} {n:Nat} (h:∀ i,i < 4 → (l i).natAbs≤n) (e:n < 2 ^ 50):∀ i,i < 4 → Cd (inW l i) (l i,0)∧Cb (l i,0) n:=fun i hi =>
 ⟨⟨Rd.nearest _ (by have:=h i hi;omega),rd_zero⟩,h i hi,by simp⟩
theorem of_ok {l:Nat → Int} {n:Nat} (h:∀ i,i < 4 → (l i).natAbs≤n) (e:n < 2 ^ 50) (k:Nat):Cd (ofW l k) (ofZ l k)∧Cb (ofZ l k) (4*n) :=
 sums_ok cd_right (.inr rfl) (fun i hi=>(in_ok h e i hi).1) (fun i hi=>(in_ok h e i hi).2) e k
def crossZ (x t:Nat → Int):Nat → Int × Int:=fun i=>cmul (ofZ x i) (ofZ t i)
theorem back_cross (x t:Nat → Int) :
  (sumsZ (0,1) (crossZ x t) 2).1=4*(x 0*t 2+x 1*t 1+x 2*t 0+x 3*t 3)∧(sumsZ (0,1) (crossZ x t) 3).1=4*(x 0*t 3+x 1*t 2+x 2*t 1+x 3*t 0):=by
 constructor <;> simp only [sumsZ,sumZ,turnZ,crossZ,ofZ,cmul,cadd,Nat.reduceMul,Nat.reduceMod] <;> grind
end Go.Proofs.YtbecbfpoahhpnaaGreat.Fx
namespace Go.Proofs.YtbecbfpoahhpnaaGreat
open Go.RowKit Go.ChangeShapes Go.WideShapes Tryz
theorem eC {P:Program} {s:Func} {R:Ending → World → Prop} {a:Act} {w:World} {g:Nat} {e t i:TypeId} {n:Nat} {cs:Array Value} {p:Tmp} (h:s.results=#[.cell p t]) (d:Blk w g e cs) (c:a.tmps.getD p undef=.pointer (some ⟨g,0,none⟩)) (m:P.underlying t=some (.array n i)) (hi:(P.info? t).map (·.size)=some cs.size) (l:a.defers=[])
  (r:R (.returned (.agg cs)) w):bodyPost P s R .ret a w:=by
 refine bodyPost_ret (v:=.agg cs) ?_ l r;simp only [results,h];have o:a.tmps[p]?.getD undef=.pointer (some ⟨g,0,none⟩):=by simpa using c
 simp [Sem.run_bind,o,df,run_loadVar_row w g e t cs (0,0) (.array n i) d.heap m rfl hi,Result.andThen]
def Cy:af:=⟨9,0,0,0,0,0,0,0,0,[],[],0,0,0,0,0,0,0,0⟩
theorem yA (w:World) (S:Nat → Prop):di.rep w S [.int .i64 9,.int .i64 0,.int .i64 0,.int .i64 0,.int .i64 0,.int .i64 0,.int .i64 0,.int .i8 0,.int .i8 0,.slice none 0 0,.slice none 0 0,.int .i32 0,.int .i64 0,.int .i8 0,.int .i32 0,.int .i64 0,.int .i8 0,.int .i8 0,.int .i8 0] Cy :=
 ⟨(9,0,0,0,0,0,0,0,0,[],[],(0,0,0),(0,0,0),0,0),rfl,
  _,_,rfl,⟨rfl,by decide⟩,_,_,rfl,⟨rfl,by decide⟩,_,_,rfl,⟨rfl,by decide⟩,_,_,rfl,⟨rfl,by decide⟩,_,_,rfl,⟨rfl,by decide⟩,_,_,rfl,⟨rfl,by decide⟩,_,_,rfl,⟨rfl,by decide⟩,_,_,rfl,⟨rfl,by decide⟩,_,_,rfl,⟨rfl,by decide⟩,
  _,_,rfl,(Sl.nil _ _ _).rep,_,_,rfl,(Sl.nil _ _ _).rep,_,_,rfl,⟨_,_,rfl,⟨rfl,by decide⟩,_,_,rfl,⟨rfl,by decide⟩,rfl,by decide⟩,_,_,rfl,⟨_,_,rfl,⟨rfl,by decide⟩,_,_,rfl,⟨rfl,by decide⟩,rfl,by decide⟩,_,_,rfl,⟨rfl,by decide⟩,rfl,by decide⟩
end Go.Proofs.YtbecbfpoahhpnaaGreat
namespace Go.Proofs.YtbecbfpoahhpnaaGreat.Rk
open Tryz
def ahead (l:List Int) (k i:Nat):Bool:=decide (l.getD i 0 < l.getD k 0) || (l.getD k 0 == l.getD i 0 && decide (k < i))
theorem ahead_iff {l:List Int} {k i:Nat}:ahead l k i=true ↔ l.getD i 0 < l.getD k 0 ∨ (l.getD k 0=l.getD i 0∧k < i):=by simp [ahead]
theorem ahead_trans {l:List Int} {a b c:Nat} (e:ahead l a b=true) (t:ahead l b c=true):ahead l a c=true:=by
 rw [ahead_iff] at *;omega
theorem ahead_asymm {l:List Int} {a b:Nat} (e:ahead l a b=true):ahead l b a=false:=by
 rw [Bool.eq_false_iff];intro t;rw [ahead_iff] at *;omega
theorem ahead_irrefl (l:List Int) (a:Nat):ahead l a a=false:=by
 rw [Bool.eq_false_iff];intro e;rw [ahead_iff] at *;omega
theorem ahead_total (l:List Int) {a b:Nat} (h:a ≠ b):ahead l a b=true ∨ ahead l b a=true:=by
 rw [ahead_iff,ahead_iff];omega
def plc (l:List Int) (i:Nat):Nat:=(List.range l.length).countP fun k=>ahead l k i
def refOrder (l:List Int):List Nat:=(List.range l.length).flatMap fun m=>(List.range l.length).filter fun i=>plc l i == m
structure IsOrder (l:List Int) (o:List Nat):Prop where
 perm:o.Perm (List.range l.length)
 asc:o.Pairwise fun i j=>ahead l i j=true
theorem IsOrder.len {l:List Int} {o:List Nat} (h:IsOrder l o):o.length=l.length:=by
 have:=h.perm.length_eq;simpa using this
theorem IsOrder.plc_at {l:List Int} {o:List Nat} (h:IsOrder l o) (m:Nat) (d:m < o.length):plc l o[m]=m:=by
 unfold plc;rw [← h.perm.countP_eq];have i:o=o.take m ++ o[m] :: o.drop (m+1):=by rw [← List.drop_eq_getElem_cons d,List.take_append_drop]
 have t:=h.asc;rw [i] at t;rw [List.pairwise_append] at t;obtain ⟨c,a,r⟩:=t;rw [List.pairwise_cons] at a;generalize f:o[m]=x at *;rw [i,List.countP_append,List.countP_cons,ahead_irrefl];have n:(o.take m).countP (fun k=>ahead l k x)=m:=by
  rw [List.countP_eq_length.2 (fun k e=>r k e x sM)];simp;omega
 have s:(o.drop (m+1)).countP (fun k=>ahead l k x)=0:=by
  rw [List.countP_eq_zero];intro k e;have:=ahead_asymm (a.1 k e);simp [this]
 rw [n,s];simp
theorem IsOrder.mem {l:List Int} {o:List Nat} (h:IsOrder l o) (i:Nat) (hi:i < l.length):∃ m,∃ e:m < o.length,o[m]=i:=by
 have:i ∈ o:=h.perm.mem_iff.2 (by simp [hi]);exact List.getElem_of_mem this
theorem filter_one (n x:Nat) (a:x < n) (p:Nat → Bool) (e:∀ i,i < n → (p i=true ↔ i=x)):(List.range n).filter p=[x]:=by
 induction n with
 | zero=>omega
 | succ n ih =>
  rw [List.range_succ,List.filter_append];by_cases c:x=n
  ·subst c;have:(List.range x).filter p=[]:=by
    rw [List.filter_eq_nil_iff];intro i hi h;have t:i < x:=by simpa using hi
    have:=(e i oM).1 h;omega
   rw [this];simp [List.filter_cons,(e x oM).2 rfl]
  ·rw [ih oM (fun i hi=>e i oM)];have:p n=false:=by
    rw [Bool.eq_false_iff];intro h;exact c ((e n oM).1 h).symm
   simp [List.filter_cons,this]
theorem IsOrder.eq {l:List Int} {o:List Nat} (h:IsOrder l o):refOrder l=o:=by
 have a:=h.len;have t:∀ k,k≤o.length → ((List.range k).flatMap fun m=>(List.range l.length).filter fun i=>plc l i == m)=o.take k:=by
  intro k
  induction k with
  | zero=>intro _;simp
  | succ k ih =>
   intro r;rw [List.range_succ,List.flatMap_append,ih oM];have s:o[k] < l.length:=by
    have:o[k] ∈ List.range l.length:=h.perm.mem_iff.1 (List.getElem_mem _);simpa using this
   have:((List.range l.length).filter fun i=>plc l i == k)=[o[k]]:=by
    refine filter_one _ _ s _ fun i hi=>?_;rw [beq_iff_eq];obtain ⟨m,n,rfl⟩:=h.mem i hi;rw [h.plc_at m n];constructor
    ·rintro rfl;rfl
    ·intro e;have:=h.plc_at m n;rw [e,h.plc_at k oM] at this;exact this.symm
   simp only [List.flatMap_cons,List.flatMap_nil,List.append_nil,this];rw [List.take_succ_eq_append_getElem oM]
 unfold refOrder;rw [← a];have:=t o.length (lR _);rw [List.take_length] at this;rw [a] at this ⊢;exact this
/-! ### the best -/
def bestTo (l:List Int):Nat → Int
 | 0=>-1
 | k+1=>if bestTo l k < 0 ∨ l.getD (bestTo l k).toNat 0 < l.getD k 0 then (k:Int) else bestTo l k
def bestI (l:List Int):Int:=bestTo l l.length
theorem bestTo_spec (l:List Int) (k:Nat):(k=0∧bestTo l k=-1) ∨ ∃ b:Nat,b < k∧bestTo l k=(b:Int)∧∀ i,i < k → i ≠ b → ahead l b i=true:=by
 induction k with
 | zero=>exact .inl ⟨rfl,rfl⟩
 | succ k ih =>
  right;unfold bestTo;rcases ih with ⟨rfl,e⟩|⟨b,r,e,h⟩
  ·refine ⟨0,by omega,by rw [e];rfl,fun i hi h=>by omega⟩
  ·rw [e];by_cases c:(b:Int) < 0 ∨ l.getD (b:Int).toNat 0 < l.getD k 0
   ·rw [if_pos c];refine ⟨k,by omega,rfl,fun i hi t=>?_⟩;have n:l.getD b 0 < l.getD k 0:=by
     rcases c with c|c
     ·omega
     ·simpa using c
    have o:ahead l k b=true:=by rw [ahead_iff];exact .inl n
    by_cases a:i=b
    ·rw [a];exact o
    ·exact ahead_trans o (h i oM a)
   ·rw [if_neg c];refine ⟨b,by omega,rfl,fun i hi t=>?_⟩;by_cases s:i=k
    ·subst s;rw [ahead_iff];have:¬ l.getD b 0 < l.getD i 0:=fun h=>c (.inr (by simpa using h));omega
    ·exact h i oM t
theorem bestTo_bd (l:List Int) (k:Nat):-1≤bestTo l k∧bestTo l k < k:=by
 rcases bestTo_spec l k with ⟨h,e⟩|⟨b,t,e,_⟩ <;> rw [e] <;> omega
theorem plc_zero {l:List Int} {i:Nat} (h:plc l i=0) (k:Nat) (e:k < l.length):ahead l k i=false:=by
 unfold plc at h;rw [List.countP_eq_zero] at h;have:=h k (by simpa using e);simpa using this
theorem best_ahead {l:List Int} (h:0 < l.length):∃ b:Nat,b < l.length∧bestI l=(b:Int)∧plc l b=0∧∀ i,i < l.length → i ≠ b → ahead l b i=true:=by
 rcases bestTo_spec l l.length with ⟨s,_⟩|⟨b,o,e,a⟩
 ·omega
 ·refine ⟨b,o,e,?_,a⟩;unfold plc;rw [List.countP_eq_zero];intro k n;have t:k < l.length:=by simpa using n
  by_cases c:k=b
  ·rw [c,ahead_irrefl];simp
  ·rw [ahead_asymm (a k t c)];simp
theorem best_of_plc {l:List Int} {i:Nat} (hi:i < l.length) (h:plc l i=0):bestI l=(i:Int):=by
 obtain ⟨b,a,e,_,t⟩:=best_ahead (l:=l) oM;by_cases c:i=b
 ·rw [c];exact e
 ·have:=t i hi c;rw [plc_zero h b a] at this;cases this
/-! ### by how much -/
def marginI (l:List Int):Int:=if l.length < 2 then 0 else l.getD ((refOrder l).getD 0 0) 0 - l.getD ((refOrder l).getD 1 0) 0
theorem IsOrder.first {l:List Int} {o:List Nat} (h:IsOrder l o) (t:0 < l.length):bestI l=(o.getD 0 0:Nat):=by
 have a:=h.len;have:=h.plc_at 0 oM;have e:o[0] < l.length:=by
  have:o[0] ∈ List.range l.length:=h.perm.mem_iff.1 (List.getElem_mem _);simpa using this
 rw [best_of_plc e this];rw [gD,List.getElem?_eq_getElem oM];rfl
theorem IsOrder.getD {l:List Int} {o:List Nat} (h:IsOrder l o) (m:Nat) (t:m < l.length):o.getD m 0 < l.length∧o.getD m 0=o[m]'(by rw [h.len];exact t):=by
 have a:=h.len;have e:o.getD m 0=o[m]'oM:=by rw [gD,List.getElem?_eq_getElem oM];rfl
 rw [e];have:o[m]'oM ∈ List.range l.length:=h.perm.mem_iff.1 (List.getElem_mem _);exact ⟨by simpa using this,rfl⟩
/-! ### numbers that all grow -/
theorem order_exists (l:List Int):∃ o,IsOrder l o:=by
 refine ⟨(List.range l.length).mergeSort (fun a b=>ahead l a b || a == b),List.mergeSort_perm _ _,?_⟩;have n:=List.pairwise_mergeSort (le:=fun a b=>ahead l a b || a == b) (fun a b c e t=>?_) (fun a b=>?_) (List.range l.length)
 ·have i:((List.range l.length).mergeSort (fun a b=>ahead l a b || a == b)).Nodup:=(List.mergeSort_perm _ _).nodup_iff.2 List.nodup_range;refine (List.Pairwise.and n i).imp ?_;intro a b h;obtain ⟨e,t⟩:=h;simp only [Bool.or_eq_true,beq_iff_eq] at e;rcases e with e|e
  ·exact e
  ·exact (t e).elim
 ·simp only [Bool.or_eq_true,beq_iff_eq] at *;rcases e with e|rfl
  ·rcases t with t|rfl
   ·exact .inl (ahead_trans e t)
   ·exact .inl e
  ·exact t
 ·simp only [Bool.or_eq_true,beq_iff_eq];by_cases c:a=b
  ·exact .inl (.inr c)
  ·rcases ahead_total l c with h|h
   ·exact .inl (.inl h)
   ·exact .inr (.inl h)
theorem refOrder_is (l:List Int):IsOrder l (refOrder l):=by
 obtain ⟨o,h⟩:=order_exists l;rw [h.eq];exact h
end Go.Proofs.YtbecbfpoahhpnaaGreat.Rk
