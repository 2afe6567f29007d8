/-
  What rows of cells stand for: integers, bools, strings, structs, slices of any of them, as Lean data, in a world and within a set of blocks.
  Rows of cells as lists of data, and slices of the call's own as such: what a literal, a make or an append leaves, read as data.
  A region that draws its order and ends in a forced tail: ahead of the tail's first operation a condition on the world is kept, so that loads may be taken first; from it on nothing is asked.
  Whole parts of a struct's block, loaded and stored at once: the world behind a store is opaque.
  Laws under short names, for claims that must be short (tools/mini.py puts them in the place of the long spellings).
  A region that draws its order and whose operations read, or call what only makes memory: one walk of the text's order serves every order (the kit's theorem on quiet regions, at the class 'old memory is as it was').
  Facts taken over to a later world, each by one word ('.fut').
  One cell of a known block is stored, the world behind it opaque; facts taken over a store into another block.
  Facts that go over to later worlds, all at once.
  Laws under short names, several facts at once (tools/mini3.py puts them in the place of the long spellings).
-/
import Derived.WalkSpells
import Derived.WalkLawsBesides
import Derived.Deep.Slices
import Derived.Lib.Hide
import Derived.BigQuiet
import Derived.Handy
import Derived.StillTail
import Derived.Deep.RegionHeld3
set_option linter.unusedVariables false
set_option linter.unusedSimpArgs false
set_option maxRecDepth 100000
set_option maxHeartbeats 16000000
namespace Go.Proofs.YtmihnoagagbgaaaGreat
open Go.RowKit Go.ChangeShapes Go.WideShapes Go.Deep
set_option maxRecDepth 100000
set_option maxHeartbeats 16000000
/-- Cells as data: a number of cells; when a list of values, in a world, within the blocks S, stands for x. -/
structure Ty (α:Type) where
 size:Nat
 rep:World → (Nat → Prop) → List Value → α → Prop
 len:∀ {w S cs x},rep w S cs x → cs.length=size
 keep:∀ {w w' S cs x},rep w S cs x → (∀ b,S b → w'.heap[b]?=w.heap[b]?) → rep w' S cs x
 more:∀ {w S S' cs x},rep w S cs x → (∀ b,S b → S' b) → rep w S' cs x
 one:∀ {w S cs x},rep w S cs x → ∀ u ∈ cs,u.oneCell'=true
/-- Blocks below a number. -/
def blo (n:Nat):Nat → Prop:=fun b=>b < n
/-- Blocks between two numbers. -/
def bin (m n:Nat):Nat → Prop:=fun b=>m≤b∧b < n
theorem oJ {m n:Nat}:∀ b,bin m n b → blo n b:=fun _ h=>h.2
theorem aO {m n m' n':Nat} (h:m'≤m) (h':n≤n'):∀ b,bin m n b → bin m' n' b:=fun _ k=>⟨Nat.le_trans h k.1,Nat.lt_of_lt_of_le k.2 h'⟩
theorem dJ {n n':Nat} (h':n≤n'):∀ b,blo n b → blo n' b:=fun _ k=>Nat.lt_of_lt_of_le k h'
def InK (k:IntKind) (n:Int):Prop:=k.min≤n∧n≤k.max
instance (k:IntKind) (n:Int):Decidable (InK k n):=inferInstanceAs (Decidable (_∧_))
theorem aT {n:Int}:InK .i8 n ↔ -128≤n∧n≤127:=by simp [InK,IntKind.min,IntKind.max,IntKind.signed,IntKind.bits]
theorem iF {n:Int}:InK .i16 n ↔ -32768≤n∧n≤32767:=by simp [InK,IntKind.min,IntKind.max,IntKind.signed,IntKind.bits]
theorem bE {n:Int}:InK .i32 n ↔ -2147483648≤n∧n≤2147483647:=by simp [InK,IntKind.min,IntKind.max,IntKind.signed,IntKind.bits]
theorem ah {n:Int}:InK .i64 n ↔ -9223372036854775808≤n∧n≤9223372036854775807:=by simp [InK,IntKind.min,IntKind.max,IntKind.signed,IntKind.bits]
theorem da {k:IntKind} {a b:Int} (h:a=b):Ending.returned (.int k a)=.returned (.int k b):=by rw [h]
theorem au {a b:Bool} (h:a=b):Ending.returned (.bool a)=.returned (.bool b):=by rw [h]
theorem kF {α:Type} (l:List α) (k:Nat) (x:α) (h:l[k]?=some x):l.take (k+1)=l.take k ++ [x]:=by
 have hk:k < l.length:=(List.getElem?_eq_some_iff.1 h).1
 rw [List.take_succ_eq_append_getElem hk]
 rw [List.getElem?_eq_getElem hk] at h
 injection h with h
 rw [h]
def aa (k:IntKind):Ty Int where
 size:=1
 rep:=fun _ _ cs n=>cs=[.int k n]∧InK k n
 len:=by rintro w S cs x ⟨rfl,_⟩;rfl
 keep:=fun h _=>h
 more:=fun h _=>h
 one:=by rintro w S cs x ⟨rfl,_⟩ u hu;simp at hu;subst hu;rfl
/-- Two things one behind the other. -/
def tPair {α β:Type} (t:Ty α) (u:Ty β):Ty (α × β) where
 size:=t.size+u.size
 rep:=fun w S cs x=>∃ c d,cs=c ++ d∧t.rep w S c x.1∧u.rep w S d x.2
 len:=by rintro w S cs x ⟨c,d,rfl,h1,h2⟩;rw [List.length_append,t.len h1,u.len h2]
 keep:=by rintro w w' S cs x ⟨c,d,rfl,h1,h2⟩ h;exact ⟨c,d,rfl,t.keep h1 h,u.keep h2 h⟩
 more:=by rintro w S S' cs x ⟨c,d,rfl,h1,h2⟩ h;exact ⟨c,d,rfl,t.more h1 h,u.more h2 h⟩
 one:=by rintro w S cs x ⟨c,d,rfl,h1,h2⟩ v hv;exact (List.mem_append.1 hv).elim (fun h=>t.one h1 v h) (fun h=>u.one h2 v h)
/-- The same cells read as another type. -/
def tMap {α β:Type} (f:α → β) (t:Ty α):Ty β where
 size:=t.size
 rep:=fun w S cs y=>∃ x,y=f x∧t.rep w S cs x
 len:=by rintro w S cs y ⟨x,rfl,h⟩;exact t.len h
 keep:=by rintro w w' S cs y ⟨x,rfl,h⟩ hk;exact ⟨x,rfl,t.keep h hk⟩
 more:=by rintro w S S' cs y ⟨x,rfl,h⟩ hk;exact ⟨x,rfl,t.more h hk⟩
 one:=by rintro w S cs y ⟨x,rfl,h⟩;exact t.one h
/-- Element number i of a row that begins at an address. -/
def elemAt {α:Type} (t:Ty α) (w:World) (S:Nat → Prop) (A:Option Addr) (i:Nat) (x:α):Prop :=
 ∃ a xs,A=some a∧S a.block∧t.rep w S xs x∧∀ j v,xs[j]?=some v → w.cell? (a.add (i*t.size+j))=some v
/-- A slice of anything. -/
def tSlice {α:Type} (t:Ty α):Ty (List α) where
 size:=1
 rep:=fun w S cs l=>∃ A cap,cs=[.slice A l.length cap]∧l.length≤cap∧cap≤maxLen∧(A=none → cap=0)∧∀ i x,l[i]?=some x → elemAt t w S A i x
 len:=by rintro w S cs x ⟨A,cap,rfl,_⟩;rfl
 keep:=by
  rintro w w' S cs l ⟨A,cap,rfl,h1,h2,h3,h4⟩ hk
  refine ⟨A,cap,rfl,h1,h2,h3,fun i x hx=>?_⟩
  obtain ⟨a,xs,rfl,hS,hr,hc⟩:=h4 i x hx
  refine ⟨a,xs,rfl,hS,t.keep hr hk,fun j v hv=>?_⟩
  rw [World.cell?_of_block (w:=w)]
  ·exact hc j v hv
  ·have:(a.add (i*t.size+j)).block=a.block:=by unfold Addr.add;split <;> rfl
   rw [this];exact hk _ hS
 more:=by
  rintro w S S' cs l ⟨A,cap,rfl,h1,h2,h3,h4⟩ hk
  refine ⟨A,cap,rfl,h1,h2,h3,fun i x hx=>?_⟩
  obtain ⟨a,xs,rfl,hS,hr,hc⟩:=h4 i x hx
  exact ⟨a,xs,rfl,hk _ hS,t.more hr hk,hc⟩
 one:=by rintro w S cs l ⟨A,cap,rfl,_⟩ u hu;simp at hu;subst hu;rfl
/-- A slice's own facts: its value, and each element. -/
structure Sl {α:Type} (t:Ty α) (w:World) (S:Nat → Prop) (A:Option Addr) (n cap:Nat) (l:List α):Prop where
 n_eq:l.length=n
 cap_le:n≤cap
 max_le:cap≤maxLen
 nil_:A=none → cap=0
 at_:∀ i x,l[i]?=some x → elemAt t w S A i x
section
variable {α:Type} {t:Ty α} {w w':World} {S S':Nat → Prop} {A:Option Addr} {n cap:Nat} {l:List α}
theorem eS {cs:List Value}:(tSlice t).rep w S cs l ↔ ∃ A cap,cs=[.slice A l.length cap]∧Sl t w S A l.length cap l :=
 ⟨fun ⟨A,cap,h,h1,h2,h3,h4⟩=>⟨A,cap,h,rfl,h1,h2,h3,h4⟩,fun ⟨A,cap,h,h0⟩=>⟨A,cap,h,h0.cap_le,h0.max_le,h0.nil_,h0.at_⟩⟩
theorem Sl.rep (h:Sl t w S A n cap l):(tSlice t).rep w S [.slice A n cap] l:=by
 obtain ⟨rfl,h1,h2,h3,h4⟩:=h
 exact ⟨A,cap,rfl,h1,h2,h3,h4⟩
theorem Sl.of_rep (h:(tSlice t).rep w S [.slice A n cap] l):Sl t w S A n cap l:=by
 obtain ⟨A',cap',h0,h1,h2,h3,h4⟩:=h
 simp only [List.cons.injEq,Value.slice.injEq,and_true] at h0
 obtain ⟨rfl,rfl,rfl⟩:=h0
 exact ⟨rfl,h1,h2,h3,h4⟩
theorem Sl.keep (h:Sl t w S A n cap l) (hk:∀ b,S b → w'.heap[b]?=w.heap[b]?):Sl t w' S A n cap l:=.of_rep ((tSlice t).keep h.rep hk)
theorem Sl.more (h:Sl t w S A n cap l) (hk:∀ b,S b → S' b):Sl t w S' A n cap l:=.of_rep ((tSlice t).more h.rep hk)
/-- Read in a later world, within all of its blocks. -/
theorem Sl.later {n0:Nat} (h:Sl t w (blo n0) A n cap l) (hb:Below w.heap.size w w') (hn:n0≤w.heap.size):Sl t w' (blo w'.heap.size) A n cap l :=
 (h.keep fun b hs=>hb.block b (Nat.lt_of_lt_of_le hs hn)).more fun b hs=>Nat.lt_of_lt_of_le (Nat.lt_of_lt_of_le hs hn) hb.size
theorem Sl.below {B:Nat} (h:Sl t w S A n cap l) (hb:Below B w w') (hS:∀ b,S b → b < B):Sl t w' S A n cap l:=h.keep fun b hs=>hb.block b (hS b hs)
theorem Sl.nil (t:Ty α) (w:World) (S:Nat → Prop):Sl t w S none 0 0 ([]:List α):=⟨rfl,Nat.le_refl _,Nat.zero_le _,fun _=>rfl,by simp⟩
theorem Addr.add_block (a:Addr) (i:Nat):(a.add i).block=a.block:=by unfold Addr.add;split <;> rfl
/-- An element of several cells, where the walk looks for it. -/
theorem Sl.cells (h:Sl t w S A n cap l) (i:Nat) (hi:i < n) (hp:0 < t.size):∃ (x:α) (b off:Nat) (xs:List Value),l[i]?=some x∧A=some ⟨b,off,none⟩∧S b∧b < w.heap.size∧t.rep w S xs x∧xs.length=t.size ∧
  ∀ j v,xs[j]?=some v → w.cell? ⟨b,off+(i*t.size+j),none⟩=some v:=by
 have hl:i < l.length:=by rw [h.n_eq];exact hi
 obtain ⟨a,xs,hA,hS,hr,hc⟩:=h.at_ i l[i] (List.getElem?_eq_getElem hl)
 have hlen:=t.len hr
 have h0l:0 < l.length:=by omega
 obtain ⟨a0,xs0,hA0,_,hr0,hc0⟩:=h.at_ 0 l[0] (List.getElem?_eq_getElem h0l)
 rw [hA] at hA0
 injection hA0 with hA0
 subst hA0
 have hlen0:=t.len hr0
 have hz:=hc0 0 (xs0[0]'(by omega)) (List.getElem?_eq_getElem (by omega))
 obtain ⟨b,off,spot⟩:=a
 have hspot:spot=none:=by
  have hz':w.cell? ⟨b,off,spot⟩=some (xs0[0]'(by omega)):=by simpa [Addr.add] using hz
  unfold World.cell? at hz'
  cases spot with
  | none=>rfl
  | some s =>
   split at hz'
   ·simp at hz'
   ·cases hz'
 subst hspot
 refine ⟨l[i],b,off,xs,List.getElem?_eq_getElem hl,hA,hS,?_,hr,hlen,fun j v hv=>?_⟩
 ·have:=World.block_lt_of_cell? w _ hz
  simpa [Addr.add_block] using this
 ·have:=hc j v hv
  rw [← this]
  unfold Addr.add
  split
  ·rename_i h0;rw [h0];rfl
  ·rfl
/-- An element of one cell, where the walk looks for it. -/
theorem Sl.cell1 (h:Sl t w S A n cap l) (ht:t.size=1) (i:Nat) (hi:i < n):∃ (x:α) (b off:Nat) (v:Value),l[i]?=some x∧A=some ⟨b,off,none⟩∧S b∧b < w.heap.size∧t.rep w S [v] x∧w.cell? ⟨b,off+i,none⟩=some v:=by
 obtain ⟨x,b,off,xs,hx,hA,hS,hb,hr,hl,hc⟩:=h.cells i hi (by omega)
 rw [ht] at hl
 match xs,hl with
 | [v],_ =>
  have:=hc 0 v rfl
  rw [ht,Nat.mul_one,Nat.add_zero] at this
  exact ⟨x,b,off,v,hx,hA,hS,hb,hr,this⟩
end
/-- A piece of a slice, as the walk spells it. -/
theorem Sl.sub {α:Type} {t:Ty α} {w:World} {S:Nat → Prop} {b off n cap:Nat} {l:List α} (h:Sl t w S (some ⟨b,off,none⟩) n cap l) (p m q c:Nat) (hq:q=p*t.size) (hp:p+m≤n) (hc:m≤c) (hc2:c≤cap) :
  Sl t w S (some ⟨b,off+q,none⟩) m c ((l.drop p).take m):=by
 have hn:=h.n_eq
 refine ⟨by rw [List.length_take,List.length_drop];omega,hc,Nat.le_trans hc2 h.max_le,(fun h=>by cases h),fun i x hx=>?_⟩
 rw [List.getElem?_take] at hx
 split at hx
 ·rw [List.getElem?_drop] at hx
  obtain ⟨a,xs,hA,hS,hr,hcx⟩:=h.at_ _ x hx
  injection hA with hA
  subst hA
  refine ⟨_,xs,rfl,hS,hr,fun j v hv=>?_⟩
  rw [← hcx j v hv]
  have e:∀ k,(⟨b,off,none⟩:Addr).add k=⟨b,off+k,none⟩:=fun k=>by unfold Addr.add;split <;> simp_all
  have e':∀ k,(⟨b,off+q,none⟩:Addr).add k=⟨b,off+q+k,none⟩:=fun k=>by unfold Addr.add;split <;> simp_all
  rw [e,e',hq,Nat.add_mul]
  congr 2
  omega
 ·cases hx
/-- An element of a slice of integers. -/
theorem Sl.int_at {k:IntKind} {w:World} {S:Nat → Prop} {A:Option Addr} {n cap:Nat} {l:List Int} (h:Sl (aa k) w S A n cap l) (i:Nat) (hi:i < n) :
  ∃ b off,A=some ⟨b,off,none⟩∧S b∧b < w.heap.size∧w.cell? ⟨b,off+i,none⟩=some (.int k (l.getD i 0))∧InK k (l.getD i 0):=by
 obtain ⟨x,b,off,v,hx,hA,hS,hb,⟨hr,hk⟩,hc⟩:=h.cell1 rfl i hi
 simp only [List.cons.injEq,and_true] at hr
 subst hr
 have:l.getD i 0=x:=by rw [List.getD_eq_getElem?_getD,hx];rfl
 rw [this]
 exact ⟨b,off,hA,hS,hb,hc,hk⟩
theorem Sl.allK {k:IntKind} {w:World} {S:Nat → Prop} {A:Option Addr} {n cap:Nat} {l:List Int} (h:Sl (aa k) w S A n cap l) (i:Nat):InK k (l.getD i 0):=by
 by_cases hi:i < n
 ·obtain ⟨_,_,_,_,_,_,h⟩:=h.int_at i hi;exact h
 ·rw [List.getD_eq_getElem?_getD,List.getElem?_eq_none (by rw [h.n_eq];omega)]
  cases k <;> decide
theorem eE {B:Nat} {w w':World} {p:Addr} {v:Value} (hb:Below B w w') (h:w.cell? p=some v) (hg:p.block < B):w'.cell? p=some v:=(hb.cell hg).trans h
theorem ao {w w':World} {p:Addr} {v:Value} (hb:Below w.heap.size w w') (h:w.cell? p=some v):w'.cell? p=some v:=eE hb h (World.block_lt_of_cell? w _ h)
theorem ag {w0 w w':World} (hb:Below w.heap.size w w') (h:Below w0.heap.size w0 w):Below w0.heap.size w0 w':=h.trans (hb.mono h.size)
theorem ai {B:Nat} {a w w':World} (h:Below B a w) (hb:Below w.heap.size w w') (hB:B≤w.heap.size):Below B a w':=h.trans (hb.mono hB)
/-- A call hands back a slice in new memory that reads as a list, and leaves old memory as it was. -/
def RetSl {α:Type} (t:Ty α) (w:World) (l:List α) (e:Ending) (w':World):Prop :=
 ∃ A n cap,e=.returned (.slice A n cap)∧Sl t w' (bin w.heap.size w'.heap.size) A n cap l∧Below w.heap.size w w'
/-! ### Arguments opened -/
section
variable {H:Type} {enc:TypeId × Value → H} {P:Program} {w:World} {spare:Nat → Bool} {held:Bool}
/-- Whatever reads as data of this type stands for something. -/
def Opens (P:Program) {α:Type} (T:TypeId) (t:Ty α):Prop :=
 P.cellsOf T=t.size∧∀ {H:Type} {enc:TypeId × Value → H} {w:World} {base:Nat} {spare:Nat → Bool} {held:Bool} {fuel:Nat} {cs:List Value} {x:DataW H × List MemPlace},
  DataW.trod enc P w base spare held fuel T cs=some x → ∃ y,t.rep w (blo w.heap.size) cs y
theorem fo {T:TypeId} {k:IntKind} (hT:P.underlying T=some (.int k)) (hc:P.cellsOf T=1):Opens P T (aa k):=by
 refine ⟨hc,fun h=>?_⟩
 obtain ⟨n,rfl,_,hw⟩:=DataW.trod_int hT h
 exact ⟨n,rfl,by simp only [Lit.wf,Bool.and_eq_true,decide_eq_true_eq] at hw;exact hw⟩
theorem lI {base:Nat} {a:Addr} {n:Nat} {cs:List Value} (h:w.cells? base a n=some cs):cs.length=n∧∀ j v,cs[j]?=some v → w.cell? (a.add j)=some v:=by
 obtain ⟨_,hl,hat⟩:=World.cells?_some h
 refine ⟨hl,fun j v hv=>?_⟩
 have hj:j < n:=by rw [← hl];exact (List.getElem?_eq_some_iff.1 hv).1
 rw [hat j hj,hv]
theorem gv {α:Type} {T E:TypeId} {t:Ty α} (hT:P.underlying T=some (.slice E)) (hc:P.cellsOf T=1) (hp:0 < t.size) (hE:Opens P E t):Opens P T (tSlice t):=by
 refine ⟨hc,fun {H enc w base spare held fuel cs x} h=>?_⟩
 rcases open_slice hT h with ⟨rfl,_⟩|⟨a,len,cap,m,n',D,Pl,rfl,hb,hl,hm,hmm,_,hi⟩
 ·exact ⟨[],none,0,rfl,Nat.le_refl _,Nat.zero_le _,fun _=>rfl,by simp⟩
 ·have hlm:len≤m:=by rw [hmm];split <;> omega
  have hex:∀ i,i < len → ∃ y,∃ xs,t.rep w (blo w.heap.size) xs y∧∀ j v,xs[j]?=some v → w.cell? (a.add (i*t.size+j))=some v:=by
   intro i hil
   obtain ⟨cs',hcs,htr⟩:=hi i (by omega)
   obtain ⟨y,hy⟩:=hE.2 htr
   obtain ⟨_,hat⟩:=lI hcs
   refine ⟨y,cs',hy,fun j v hv=>?_⟩
   rw [← hat j v hv,← Go.Deep.add_add,hE.1]
  have hlist:∀ k,k≤len → ∃ l:List α,l.length=k∧∀ i y,l[i]?=some y → ∃ xs,t.rep w (blo w.heap.size) xs y∧∀ j v,xs[j]?=some v → w.cell? (a.add (i*t.size+j))=some v:=by
   intro k
   induction k with
   | zero=>exact fun _=>⟨[],rfl,by simp⟩
   | succ k ih =>
    intro hk
    obtain ⟨l,hl1,hl2⟩:=ih (by omega)
    obtain ⟨y,hy⟩:=hex k (by omega)
    refine ⟨l ++ [y],by simp [hl1],fun i z hz=>?_⟩
    by_cases hik:i < k
    ·rw [List.getElem?_append_left (by omega)] at hz
     exact hl2 i z hz
    ·rw [List.getElem?_append_right (by omega),hl1] at hz
     have hi0:i - k=0:=by
      have:=(List.getElem?_eq_some_iff.1 hz).1
      simp at this;omega
     rw [hi0] at hz
     simp only [List.getElem?_cons_zero,Option.some.injEq] at hz
     subst hz
     have:i=k:=by omega
     subst this
     exact hy
  obtain ⟨l,hl1,hl2⟩:=hlist len (Nat.le_refl _)
  refine ⟨l,some a,cap,by rw [hl1],by omega,hm,(fun h=>by cases h),fun i y hy=>?_⟩
  obtain ⟨xs,hr,hcx⟩:=hl2 i y hy
  refine ⟨a,xs,rfl,?_,hr,hcx⟩
  have hlen:=t.len hr
  have:=World.block_lt_of_cell? w _ (hcx 0 (xs[0]'(by omega)) (List.getElem?_eq_getElem (by omega)))
  rw [Addr.add_block] at this
  exact this
/-- One thing less of a struct's cells. -/
structure OpensFrom (P:Program) {α:Type} (fs:List Field) (t:Ty α) (o:Nat):Prop where
 out:∀ {H:Type} {enc:TypeId × Value → H} {w:World} {base:Nat} {spare:Nat → Bool} {held:Bool} {fuel:Nat} {cs:List Value},
  cs.length=o+t.size → (∀ (i:Nat) (f:Field),fs[i]?=some f → ∃ x:DataW H × List MemPlace,DataW.trod enc P w base spare held fuel f.type ((cs.drop f.offset).take (P.cellsOf f.type))=some x) →
  ∃ y,t.rep w (blo w.heap.size) (cs.drop o) y
theorem dR {α:Type} {t:Ty α} {f:Field} {o:Nat} (ho:f.offset=o) (hf:Opens P f.type t):OpensFrom P [f] t o:=by
 constructor
 intro H enc w base spare held fuel cs hl h
 obtain ⟨x,hx⟩:=h 0 f rfl
 rw [ho,hf.1,List.take_of_length_le (by rw [List.length_drop];omega)] at hx
 exact hf.2 hx
theorem aH {α β:Type} {t:Ty α} {u:Ty β} {f:Field} {fs:List Field} {o:Nat} (ho:f.offset=o) (hf:Opens P f.type t) (hr:OpensFrom P fs u (o+t.size)) :
  OpensFrom P (f :: fs) (tPair t u) o:=by
 constructor
 intro H enc w base spare held fuel cs hl h
 obtain ⟨x,hx⟩:=h 0 f rfl
 rw [ho,hf.1] at hx
 obtain ⟨y,hy⟩:=hf.2 hx
 obtain ⟨z,hz⟩:=hr.out (cs:=cs) (by rw [hl];simp only [tPair];omega) (fun i g hg=>h (i+1) g hg)
 refine ⟨(y,z),_,_,?_,hy,hz⟩
 rw [← List.drop_drop,List.take_append_drop]
theorem eN {α:Type} {T:TypeId} {fs:Array Field} {t:Ty α} (hT:P.underlying T=some (.struct fs)) (hc:P.cellsOf T=t.size) (h:OpensFrom P fs.toList t 0):Opens P T t:=by
 refine ⟨hc,fun {H enc w base spare held fuel cs x} htr=>?_⟩
 obtain ⟨xs,n,_,_,hl,hxl,hat⟩:=DataW.trod_struct hT htr
 have:=h.out (H:=H) (enc:=enc) (w:=w) (base:=base) (spare:=spare) (held:=held) (fuel:=n) (cs:=cs) (by omega) (fun i f hf=>?_)
 ·simpa using this
 ·have hf':fs[i]?=some f:=by simpa using hf
  have hi:i < xs.length:=by rw [hxl];exact (Array.getElem?_eq_some_iff.1 hf').1
  exact ⟨xs[i],by rw [hat i f hf',List.getElem?_eq_getElem hi]⟩
theorem ko {α β:Type} {T:TypeId} {t:Ty α} (f:α → β) (h:Opens P T t):Opens P T (tMap f t) :=
 ⟨h.1,fun htr=>let ⟨y,hy⟩:=h.2 htr;⟨f y,y,rfl,hy⟩⟩
/-- An argument opened: its value stands for something. -/
theorem Opens.trod {α:Type} {T:TypeId} {t:Ty α} (h:Opens P T t) {base:Nat} {v:Value} {d:DataW H} {p:List MemPlace} (ht:DataW.Trod enc P w base spare held T v d p):∃ y,t.rep w (blo w.heap.size) v.cells.toList y :=
 let ⟨_,hf⟩:=ht;h.2 hf
end
/-- A list of values that is one row of data behind the other. -/
def RowsOf {α:Type} (t:Ty α) (w:World) (S:Nat → Prop):List Value → List α → Prop
 | vs,[]=>vs=[]
 | vs,x :: l=>∃ xs ys,vs=xs ++ ys∧t.rep w S xs x∧RowsOf t w S ys l
section
variable {α:Type} {t:Ty α} {w w':World} {S S':Nat → Prop} {vs us:List Value} {l m:List α}
theorem RowsOf.len (h : RowsOf t w S vs l) : vs.length = l.length * t.size := by
  induction l generalizing vs with
  | nil => have : vs = [] := h
           subst this; simp
  | cons x l ih =>
    obtain ⟨xs, ys, rfl, h1, h2⟩ := h
    rw [List.length_append, t.len h1, ih h2, List.length_cons, Nat.add_mul]; omega
theorem RowsOf.keep (h:RowsOf t w S vs l) (hk:∀ b,S b → w'.heap[b]?=w.heap[b]?):RowsOf t w' S vs l:=by
 induction l generalizing vs with
 | nil=>exact h
 | cons x l ih =>
  obtain ⟨xs,ys,rfl,h1,h2⟩:=h
  exact ⟨xs,ys,rfl,t.keep h1 hk,ih h2⟩
theorem RowsOf.more (h:RowsOf t w S vs l) (hk:∀ b,S b → S' b):RowsOf t w S' vs l:=by
 induction l generalizing vs with
 | nil=>exact h
 | cons x l ih =>
  obtain ⟨xs,ys,rfl,h1,h2⟩:=h
  exact ⟨xs,ys,rfl,t.more h1 hk,ih h2⟩
theorem RowsOf.append (h : RowsOf t w S vs l) (h' : RowsOf t w S us m) : RowsOf t w S (vs ++ us) (l ++ m) := by
  induction l generalizing vs with
  | nil => have : vs = [] := h
           subst this; exact h'
  | cons x l ih =>
    obtain ⟨xs, ys, rfl, h1, h2⟩ := h
    exact ⟨xs, ys ++ us, by simp, h1, ih h2⟩
theorem RowsOf.one {x:α} (h:t.rep w S vs x):RowsOf t w S vs [x]:=⟨vs,[],by simp,h,rfl⟩
theorem RowsOf.cons {x:α} (h:t.rep w S vs x) (h':RowsOf t w S us l):RowsOf t w S (vs ++ us) (x :: l):=⟨vs,us,rfl,h,h'⟩
theorem RowsOf.snoc {x:α} (h:RowsOf t w S vs l) (h':t.rep w S us x):RowsOf t w S (vs ++ us) (l ++ [x]):=h.append (.one h')
theorem RowsOf.nil (t:Ty α) (w:World) (S:Nat → Prop):RowsOf t w S [] ([]:List α):=rfl
theorem RowsOf.at_ (h:RowsOf t w S vs l) (i:Nat) (x:α) (hx:l[i]?=some x):∃ xs,t.rep w S xs x∧∀ j v,xs[j]?=some v → vs[i*t.size+j]?=some v:=by
 induction l generalizing vs i with
 | nil=>cases hx
 | cons y l ih =>
  obtain ⟨xs,ys,rfl,h1,h2⟩:=h
  cases i with
  | zero =>
   simp only [List.getElem?_cons_zero,Option.some.injEq] at hx
   subst hx
   refine ⟨xs,h1,fun j v hv=>?_⟩
   rw [Nat.zero_mul,Nat.zero_add,List.getElem?_append_left (List.getElem?_eq_some_iff.1 hv).1]
   exact hv
  | succ i =>
   obtain ⟨zs,h3,h4⟩:=ih h2 i (by simpa using hx)
   refine ⟨zs,h3,fun j v hv=>?_⟩
   rw [List.getElem?_append_right (by rw [t.len h1,Nat.add_mul];omega),t.len h1,show (i+1)*t.size+j - t.size=i*t.size+j by rw [Nat.add_mul];omega]
   exact h4 j v hv
theorem RowsOf.ints {k:IntKind} {w:World} {S:Nat → Prop} {l:List Int} (h:∀ x ∈ l,InK k x):RowsOf (aa k) w S (l.map (Value.int k)) l:=by
 induction l with
 | nil=>rfl
 | cons x l ih=>exact ⟨[.int k x],l.map (Value.int k),rfl,⟨rfl,h x (by simp)⟩,ih fun y hy=>h y (by simp [hy])⟩
theorem RowsOf.ints_iff {k:IntKind} {w:World} {S:Nat → Prop} {vs:List Value} {l:List Int} (h:RowsOf (aa k) w S vs l):vs=l.map (Value.int k)∧∀ x ∈ l,InK k x:=by
 induction l generalizing vs with
 | nil=>exact ⟨h,by simp⟩
 | cons x l ih =>
  obtain ⟨xs,ys,rfl,⟨rfl,h1⟩,h2⟩:=h
  obtain ⟨rfl,h3⟩:=ih h2
  exact ⟨rfl,by simpa using ⟨h1,h3⟩⟩
/-- A slice whose cells lie at the head of a block. -/
theorem Sl.of_block {g n cap:Nat} {cs:Array Value} {e:TypeId} {fr:Nat × Nat} (hb:w.heap[g]?=some (.cells cs e fr)) (hS:S g) (h1:n≤cap) (h2:cap≤maxLen) (hl:l.length=n)
  (h:RowsOf t w S (cs.toList.take (n*t.size)) l):Sl t w S (some ⟨g,0,none⟩) n cap l:=by
 refine ⟨hl,h1,h2,(fun h=>by cases h),fun i x hx=>?_⟩
 obtain ⟨xs,h3,h4⟩:=h.at_ i x hx
 refine ⟨_,xs,rfl,hS,h3,fun j v hv=>?_⟩
 have:=h4 j v hv
 have hadd:(⟨g,0,none⟩:Addr).add (i*t.size+j)=⟨g,i*t.size+j,none⟩:=by unfold Addr.add;split <;> simp_all
 rw [hadd,cell_of_row w g _ cs e fr hb]
 rw [List.getElem?_take] at this
 split at this
 ·simpa using this
 ·cases this
/-- A slice of the call's own. -/
theorem Sl.of_own {base:Nat} {e:TypeId} {v:Value} {n:Nat} (h:w.ownsRow base e t.size v n vs) (hr:RowsOf t w S vs l) (hp:0 < t.size) (hS:∀ b,base≤b → b < w.heap.size → S b):∃ A cap,v=.slice A n cap∧Sl t w S A n cap l:=by
 have hlen:=hr.len
 rw [h.1] at hlen
 have hn:l.length=n:=(Nat.eq_of_mul_eq_mul_right hp hlen).symm
 rcases h.2 with ⟨rfl,rfl⟩|⟨g,cap,cur,rfl,hb,hh,h1,h2,h3,h4⟩
 ·have:l=[]:=List.eq_nil_of_length_eq_zero hn
  subst this
  exact ⟨none,0,rfl,Sl.nil t w S⟩
 ·refine ⟨_,cap,rfl,Sl.of_block hh (hS g hb (Array.getElem?_eq_some_iff.1 hh).1) h1 h2 hn ?_⟩
  rw [h4];exact hr
end
/-- The numbers of a slice type: its element type, that one's zero value, cells and bytes. -/
structure EI (P:Program) (T E:TypeId) (z:Value) (size bytes:Nat):Prop where
 ht:P.underlying T=some (.slice E)
 hi:(P.info? E).map (fun i=>(i.zero,i.size,i.bytes))=some (some z,size,bytes)
 hz:z.cells.size=size
 hp:0 < size
/-- A slice of the call's own that reads as a list; what the elements lead to lies within S. -/
structure Own {α:Type} (t:Ty α) (w:World) (S:Nat → Prop) (base:Nat) (E:TypeId) (v:Value) (n:Nat) (l:List α):Prop where
 out:∃ vs,w.ownsRow base E t.size v n vs∧RowsOf t w S vs l
section
variable {α:Type} {t:Ty α} {w w':World} {S S':Nat → Prop} {l:List α} {base n:Nat} {E:TypeId} {v:Value}
theorem Own.nil (t:Ty α) (w:World) (S:Nat → Prop) (base:Nat) (E:TypeId):Own t w S base E (.slice none 0 0) 0 ([]:List α):=⟨[],World.ownsRow_nil _ _ _ _,rfl⟩
theorem Own.length (h:Own t w S base E v n l) (hp:0 < t.size):l.length=n:=by
 obtain ⟨vs,h1,h2⟩:=h.out
 have:=h2.len
 rw [h1.1] at this
 exact (Nat.eq_of_mul_eq_mul_right hp this).symm
theorem Own.lt (h:Own t w S base E v n l):∀ k,v.ownBlock=some k → base≤k∧k < w.heap.size:=by
 obtain ⟨vs,h1,_⟩:=h.out
 exact h1.lt
/-- An owned slice while the world grows and another row is written. -/
theorem Own.kept (h:Own t w S base E v n l) {row:Option Nat} (hg:w.grownBy w' row) (hne:v.ownBlock=none ∨ v.ownBlock ≠ row) (hS:∀ b,S b → b < w.heap.size∧some b ≠ row):Own t w' S base E v n l:=by
 obtain ⟨vs,h1,h2⟩:=h.out
 exact ⟨vs,h1.kept hg hne,h2.keep fun b hb=>hg.block b (hS b hb).1 (hS b hb).2⟩
theorem Own.flat (h:Own t w S base E v n l) {row:Option Nat} (hg:w.grownBy w' row) (hne:v.ownBlock=none ∨ v.ownBlock ≠ row) (hS:∀ b,¬ S b):Own t w' S base E v n l :=
 h.kept hg hne fun b hb=>(hS b hb).elim
theorem Own.below (h:Own t w S base E v n l) {B:Nat} (hb:Below B w w') (hB:w.heap.size≤B) (hS:∀ b,S b → b < w.heap.size):Own t w' S base E v n l:=by
 obtain ⟨vs,h1,h2⟩:=h.out
 have hg:w.grownBy w' none:=⟨hb.os,hb.tape,hb.output,hb.size,fun k hk _=>hb.block k (by omega)⟩
 exact ⟨vs,h1.kept hg (by cases v.ownBlock <;> simp),h2.keep fun b hs=>hb.block b (by have:=hS b hs;omega)⟩
theorem Own.heap (h:Own t w S base E v n l) (he:w'.heap=w.heap):Own t w' S base E v n l:=by
 obtain ⟨vs,h1,h2⟩:=h.out
 refine ⟨vs,⟨h1.1,?_⟩,h2.keep fun b _=>by rw [he]⟩
 rcases h1.2 with h|⟨g,cap,cur,a,b,c,d⟩
 ·exact .inl h
 ·exact .inr ⟨g,cap,cur,a,b,by rw [he];exact c,d⟩
/-- An owned slice read as a slice. -/
theorem Own.sl (h:Own t w S base E v n l) (hp:0 < t.size) (hS:∀ b,base≤b → b < w.heap.size → S' b) (hin:∀ b,S b → S' b):∃ A cap,v=.slice A n cap∧Sl t w S' A n cap l:=by
 obtain ⟨vs,h1,h2⟩:=h.out
 exact Sl.of_own h1 (h2.more hin) hp hS
theorem Own.ret {w0:World} (h:Own t w S w0.heap.size E v n l) (hp:0 < t.size) (hb:Below w0.heap.size w0 w) (hin:∀ b,S b → w0.heap.size≤b∧b < w.heap.size):RetSl t w0 l (.returned v) w:=by
 obtain ⟨A,cap,rfl,hs⟩:=h.sl (S':=bin w0.heap.size w.heap.size) hp (fun b h1 h2=>⟨h1,h2⟩) hin
 exact ⟨A,n,cap,rfl,hs,hb⟩
/-- Two slices of the call's own lie in different blocks. -/
def Apart (u v:Value):Prop:=u.ownBlock=none ∨ u.ownBlock ≠ v.ownBlock
theorem Apart.symm {u v:Value} (h:Apart u v):Apart v u:=by
 unfold Apart at *
 cases hv:v.ownBlock with
 | none=>exact .inl rfl
 | some k =>
  refine .inr fun e=>?_
  rcases h with h|h
  ·rw [h] at e;cases e
  ·exact h (by rw [hv,e])
theorem Apart.push {u v u':Value} {m:Nat} (h:Apart u v) (hat:u'.ownBlock=u.ownBlock ∨ u'.ownBlock=some m) (hlt:∀ k,v.ownBlock=some k → k < m):Apart u' v:=by
 unfold Apart at *
 rcases hat with e|e
 ·rw [e];exact h
 ·refine .inr fun e'=>?_
  have:=hlt m (by rw [← e',e])
  omega
theorem Apart.nil (v:Value):Apart (.slice none 0 0) v:=.inl rfl
theorem am {B:Nat} {a w:World} (h:Below B a w) (n:Nat):Below B a (w.drewN n):=⟨h.os,h.tape,h.output,h.size,h.block⟩
variable {P:Program} {ops:Array Oper} {rest:List Oper} {o:Oper} {a:Act} {Q:Exit → Act → World → Prop} {T:TypeId} {z:Value} {bytes:Nat}
/-- 'l = append(l, x)' where l is the call's own: the new element lies in a block that was laid just now. -/
theorem wpList_push {W:World} {cs:Array Value} (hgd:o.guard=none) (s x:Operand) (ho:o.op=.call { callee:=.builtin .append,args:=#[s,x],argTypes:=#[T,T] }) (ei:EI P T E z t.size bytes)
  (hs:a.eval s=v) (own:Own t W S base E v n l) (c:Nat) (hx:a.eval x=.slice (some ⟨W.heap.size,0,none⟩) 1 c) (y:α) (hr:t.rep W S cs.toList y)
  (h63:n+1≤maxLen) (hbytes:(n+1)*bytes≤140737488355328) (hbase:base≤W.heap.size) (hin:∀ b,S b → b < W.heap.size∧some b ≠ v.ownBlock)
  (h:∀ v' w',Own t w' S base E v' (n+1) (l ++ [y]) → W.grownBy w' v.ownBlock → (v'.ownBlock=v.ownBlock ∨ v'.ownBlock=some (W.heap.size+1)) → wpList P ops Q rest (a.put o.dst v') w') :
  wpList P ops Q (o :: rest) a (W.alloc (.cells cs E)):=by
 obtain ⟨i,hi,hz0,hz1,hz2⟩:=info_parts ei.hi
 obtain ⟨vs,h1,h2⟩:=own.out
 have hnews:∀ j u,cs.toList[j]?=some u → (W.alloc (.cells cs E)).cell? ((⟨W.heap.size,0,none⟩:Addr).add j)=some u:=by
  intro j u hu
  have hadd:(⟨W.heap.size,0,none⟩:Addr).add j=⟨W.heap.size,j,none⟩:=by unfold Addr.add;split <;> simp_all
  rw [hadd,cell_of_row (W.alloc (.cells cs E)) W.heap.size j cs E (0,0) (heap_alloc_new W _)]
  simpa using hu
 obtain ⟨v',w',hrun,k1,k2,_,k3⟩:=run_append_own_at (P:=P) (W.alloc (.cells cs E)) base T o.type E i z t.size bytes ei.ht hi hz0 hz1 hz2 ei.hz ei.hp v n vs (h1.alloc _) ⟨W.heap.size,0,none⟩ 1 c cs.toList
  (by rw [t.len hr,Nat.one_mul]) hnews (t.one hr) h63 hbytes (by simp;omega)
 have hg:W.grownBy w' v.ownBlock:=⟨k2.os,k2.tape,k2.output,Nat.le_trans (by simp) k2.size,fun k hk hne=>(k2.block k (by simp;omega) hne).trans (Below.heap_alloc W _ k hk)⟩
 refine wpList_plain hgd fun K hK=>?_
 unfold Oper.wp execOp
 simp only [ho,resolve,invoke,builtin,Sem.run_bind,Sem.run_pure,Result.andThen_ok,List.map_toArray,List.map_cons,List.map_nil,hs,hx,hrun]
 refine hK _ _ (h v' w' ⟨vs ++ cs.toList,k1,?_⟩ hg (by simpa using k3))
 refine (h2.keep fun b hb=>hg.block b (hin b hb).1 (hin b hb).2).snoc (t.keep hr fun b hb=>hg.block b (hin b hb).1 (hin b hb).2)
/-- 'make([]T, n)'. -/
theorem wpList_make {W:World} (hgd:o.guard=none) (lo co:Operand) (hop:o.op=Op.makeSlice T lo co) (ei:EI P T E z t.size bytes)
  (kl kc:IntKind) (L C:Int) (n:Nat) (hl:a.eval lo=.int kl L) (hc:a.eval co=.int kc C) (hL:L=(n:Int)) (hC:C=(n:Int)) (b2:bytes*n≤281474976710656) (b3:n≤maxLen) (b4:base≤W.heap.size)
  (x0:α) (hr:t.rep W S z.cells.toList x0) (hS:∀ b,S b → b < W.heap.size)
  (h:∀ w',Own t w' S base E (.slice (some ⟨W.heap.size,0,none⟩) n n) n (List.replicate n x0) → W.grownBy w' none → wpList P ops Q rest (a.put o.dst (.slice (some ⟨W.heap.size,0,none⟩) n n)) w') :
  wpList P ops Q (o :: rest) a W:=by
 obtain ⟨i,hi,hz0,hz1,hz2⟩:=info_parts ei.hi
 refine wpList_make_full W hgd lo co T hop base E i z t.size ei.ht hi hz0 hz1 kl kc L C n hl hc hL hC (by rw [hz2];exact b2) b3 b4 fun w' h1 hg=>h w' ⟨_,h1,?_⟩ hg
 have hr':t.rep w' S z.cells.toList x0:=t.keep hr fun b hb=>hg.block b (hS b hb) (by simp)
 have hsz:=ei.hz
 have key:∀ m,(madeCells z.cells (m*t.size)).toList=(List.replicate m z.cells.toList).flatten:=by
  intro m
  apply List.ext_getElem?
  intro j
  have hp:=ei.hp
  simp only [madeCells,Array.toList_map,Array.toList_range]
  by_cases hj:j < m*t.size
  ·rw [List.getElem?_map,List.getElem?_range hj]
   have hq:j / t.size < m:=by rw [Nat.div_lt_iff_lt_mul hp];exact hj
   have hrem:j % t.size < t.size:=Nat.mod_lt _ hp
   have:∀ k,k≤m → ∀ r,r < t.size → ∀ q,q < k → (List.replicate k z.cells.toList).flatten[q*t.size+r]?=z.cells[r]?:=by
    intro k
    induction k with
    | zero=>intro _ r _ q hq;omega
    | succ k ih =>
     intro hk r hr q hq
     rw [List.replicate_succ,List.flatten_cons]
     cases q with
     | zero=>rw [Nat.zero_mul,Nat.zero_add,List.getElem?_append_left (by simpa [hsz] using hr)];simp
     | succ q =>
      rw [List.getElem?_append_right (by simp [hsz];rw [Nat.add_mul];omega)]
      have e:(q+1)*t.size+r - z.cells.toList.length=q*t.size+r:=by simp [hsz];rw [Nat.add_mul];omega
      rw [e]
      exact ih (by omega) r hr q (by omega)
   have h3:=this m (Nat.le_refl _) (j % t.size) hrem (j / t.size) hq
   rw [Nat.mul_comm,Nat.div_add_mod] at h3
   rw [h3]
   have hb:j % t.size < z.cells.size:=by omega
   rw [hsz,Array.getElem?_eq_getElem hb]
   simp [getElem!_pos,hb]
  ·rw [List.getElem?_eq_none (by simp;omega),List.getElem?_eq_none (by simp [hsz];omega)]
 rw [key]
 have:∀ m,RowsOf t w' S (List.replicate m z.cells.toList).flatten (List.replicate m x0):=by
  intro m
  induction m with
  | zero=>rfl
  | succ m ih=>rw [List.replicate_succ,List.flatten_cons,List.replicate_succ];exact ⟨_,_,rfl,hr',ih⟩
 exact this n
/-- A cell of an owned slice of one-cell elements, as a store asks it. -/
theorem Own.cell {g cap:Nat} (h:Own t w S base E (.slice (some ⟨g,0,none⟩) n cap) n l) (ht:t.size=1) (i:Nat) (hi:i < n) :
  ∃ x u,l[i]?=some x∧t.rep w S [u] x∧w.cell? ⟨g,i,none⟩=some u∧w.frozen? ⟨g,i,none⟩=false∧g < w.heap.size∧base≤g:=by
 obtain ⟨vs,h1,h2⟩:=h.out
 have hlen:=h.length (by omega)
 have hx:l[i]?=some (l[i]'(by omega)):=List.getElem?_eq_getElem (by omega)
 obtain ⟨xs,h3,h4⟩:=h2.at_ i _ hx
 have hl:=t.len h3
 rw [ht] at hl h4
 match xs,hl with
 | [u],_ =>
  have h5:=h4 0 u rfl
  rw [Nat.mul_one,Nat.add_zero] at h5
  have h6:=h1.cellAt i (by rw [ht];omega)
  have h7:=h.lt g rfl
  exact ⟨_,u,hx,h3,by rw [h6];exact h5,h1.frozenAt i,h7.2,h7.1⟩
theorem RowsOf.set1 {vs : List Value} (h : RowsOf t w S vs l) (ht : t.size = 1) (i : Nat) (u : Value) (x : α) (hr : t.rep w S [u] x) : RowsOf t w S (vs.set i u) (l.set i x) := by
  induction l generalizing vs i with
  | nil => have : vs = [] := h
           subst this; rfl
  | cons y l ih =>
    obtain ⟨xs, ys, rfl, h1, h2⟩ := h
    have hl := t.len h1
    rw [ht] at hl
    match xs, hl with
    | [c], _ =>
      cases i with
      | zero => exact ⟨[u], ys, rfl, hr, h2⟩
      | succ i => exact ⟨[c], ys.set i u, rfl, h1, ih h2 i⟩
/-- 'l[i] = x' in a slice of the call's own. -/
theorem Own.set1 {g cap:Nat} (h:Own t w S base E (.slice (some ⟨g,0,none⟩) n cap) n l) (ht:t.size=1) (i:Nat) (u:Value) (x:α) (hr:t.rep w S [u] x) (hS:∀ b,S b → b ≠ g) :
  Own t (w.setCell ⟨g,i,none⟩ u) S base E (.slice (some ⟨g,0,none⟩) n cap) n (l.set i x)∧w.grownBy (w.setCell ⟨g,i,none⟩ u) (some g):=by
 obtain ⟨vs,h1,h2⟩:=h.out
 obtain ⟨k1,k2⟩:=h1.stored i u
 exact ⟨⟨_,k1,(h2.set1 ht i u x hr).keep fun b hb=>Below.heap_setCell _ _ _ _ (hS b hb)⟩,k2⟩
end
theorem eW (w:World) (o:Obj) (k:Nat):(w.alloc o).heap[k]?=if k=w.heap.size then some o else w.heap[k]?:=by
 show (w.heap.push o)[k]?=_
 rw [Array.getElem?_push]
theorem eX (w:World) (o:Obj) (k:Nat) (h:k=w.heap.size):(w.alloc o).heap[k]?=some o:=by rw [eW,if_pos h]
theorem qQ {w:World} {k:Nat} {o:Obj} (h:w.heap[k]?=some o) (o':Obj):(w.alloc o').heap[k]?=some o:=by
 have hk:=(Array.getElem?_eq_some_iff.1 h).1
 rw [eW,if_neg (by omega)];exact h
/-- A block that is known whole. -/
structure Blk (w:World) (g:Nat) (e:TypeId) (cs:Array Value):Prop where
 heap:w.heap[g]?=some (.cells cs e (0,0))
theorem Blk.lt {w:World} {g:Nat} {e:TypeId} {cs:Array Value} (h:Blk w g e cs):g < w.heap.size:=(Array.getElem?_eq_some_iff.1 h.heap).1
theorem Blk.cell {w:World} {g:Nat} {e:TypeId} {cs:Array Value} (h:Blk w g e cs) (i:Nat):w.cell? ⟨g,i,none⟩=cs[i]?:=cell_of_row w g i cs e (0,0) h.heap
theorem Blk.frozen {w:World} {g:Nat} {e:TypeId} {cs:Array Value} (h:Blk w g e cs) (i:Nat):w.frozen? ⟨g,i,none⟩=false:=by simp [World.frozen?,h.heap]
theorem Blk.below {w w':World} {g B:Nat} {e:TypeId} {cs:Array Value} (h:Blk w g e cs) (hb:Below B w w') (hg:g < B):Blk w' g e cs:=⟨(hb.block g hg).trans h.heap⟩
theorem Blk.later {w w':World} {g:Nat} {e:TypeId} {cs:Array Value} (h:Blk w g e cs) (hb:Below w.heap.size w w'):Blk w' g e cs:=h.below hb h.lt
theorem Blk.now (w:World) (g:Nat) (e:TypeId) (cs:Array Value) (h:g=w.heap.size):Blk (w.alloc (.cells cs e)) g e cs:=⟨eX _ _ _ h⟩
theorem Blk.past {w:World} {g:Nat} {e:TypeId} {cs:Array Value} (h:Blk w g e cs) (o:Obj):Blk (w.alloc o) g e cs:=⟨qQ h.heap o⟩
theorem Blk.drew {w:World} {g:Nat} {e:TypeId} {cs:Array Value} (h:Blk w g e cs):Blk w.drew g e cs:=⟨h.heap⟩
theorem Blk.far {w:World} {g:Nat} {e:TypeId} {cs:Array Value} (h:Blk w g e cs) (p:Addr) (u:Value) (hp:g ≠ p.block):Blk (w.setCell p u) g e cs:=⟨(Below.heap_setCell w p u g hp).trans h.heap⟩
theorem Blk.set_ {w:World} {g:Nat} {e:TypeId} {cs:Array Value} (h:Blk w g e cs) (i:Nat) (u:Value):Blk (w.setCell ⟨g,i,none⟩ u) g e (cs.setIfInBounds i u) :=
 ⟨by have:=h.heap;simp [World.setCell,Array.getElem?_modify,this]⟩
section
variable {P:Program} {fn:Func} {R:Ending → World → Prop} {a:Act} {w:World} {g:Nat} {e ty:TypeId} {cs:Array Value} {fs:Array Field} {p u:Tmp}
theorem cK (w:World) (ad:Addr):(asAddr (.pointer (some ad))).run P w=.ok ad w:=by simp [asAddr]
/-- A struct and a number are handed back. -/
theorem ret_cell_tmp (h:fn.results=#[.cell p ty,.tmp u]) (hb:Blk w g e cs) (hp:a.tmps.getD p undef=.pointer (some ⟨g,0,none⟩)) (hu:P.underlying ty=some (.struct fs)) (hi:(P.info? ty).map (·.size)=some cs.size) (hd:a.defers=[])
  (hR:R (.returned (.tuple #[.agg cs,a.tmps.getD u undef])) w):bodyPost P fn R .ret a w:=by
 refine bodyPost_ret (v:=.tuple #[.agg cs,a.tmps.getD u undef]) ?_ hd hR
 rw [results_cell_tmp h,hp,cK,Result.andThen_ok,run_loadVar_row w g e ty cs (0,0) (.struct fs) hb.heap hu rfl hi,Result.andThen_ok]
/-- A struct is handed back. -/
theorem ret_cell (h:fn.results=#[.cell p ty]) (hb:Blk w g e cs) (hp:a.tmps.getD p undef=.pointer (some ⟨g,0,none⟩)) (hu:P.underlying ty=some (.struct fs)) (hi:(P.info? ty).map (·.size)=some cs.size) (hd:a.defers=[])
  (hR:R (.returned (.agg cs)) w):bodyPost P fn R .ret a w:=by
 refine bodyPost_ret (v:=.agg cs) ?_ hd hR
 simp only [results,h]
 have hp':a.tmps[p]?.getD undef=.pointer (some ⟨g,0,none⟩):=by simpa using hp
 simp [Sem.run_bind,hp',cK,run_loadVar_row w g e ty cs (0,0) (.struct fs) hb.heap hu rfl hi,Result.andThen]
end
theorem cc (w:World) (p q:Addr) (u:Value) (h:q.block ≠ p.block):(w.setCell p u).cell? q=w.cell? q:=World.cell?_setCell_other w p q u (fun e=>h (by rw [e]))
/-- A literal of integers, wherever its block lies. -/
theorem Sl.lit {w:World} {g n cap:Nat} {cs:Array Value} {e:TypeId} {fr:Nat × Nat} {k:IntKind} {S:Nat → Prop} (l:List Int) (hb:w.heap[g]?=some (.cells cs e fr)) (hcs:cs.toList=l.map (Value.int k)) (hk:∀ x ∈ l,InK k x) (hS:S g)
  (hn:n=l.length) (hc:cap=l.length) (hm:l.length≤maxLen):Sl (aa k) w S (some ⟨g,0,none⟩) n cap l:=by
 subst hn hc
 refine Sl.of_block hb hS (Nat.le_refl _) hm rfl ?_
 rw [hcs,List.take_of_length_le (by simp [aa])]
 exact RowsOf.ints hk
end Go.Proofs.YtmihnoagagbgaaaGreat
namespace Go.Proofs.YtmihnoagagbgaaaGreat
open Go
set_option maxRecDepth 100000
set_option maxHeartbeats 16000000
section
variable {P:Program} {ops:Array Oper} {Q:Exit → Act → World → Prop} {md:Region.Mode} {C:World → Prop} {k0:Nat}
def aX (P:Program) (md:Region.Mode) (ops:Array Oper) (Q:Exit → Act → World → Prop) (C:World → Prop) (k0:Nat):Nat → Array Bool → Act → World → Prop
 | 0,listed,a,w=>Region.ready md ops listed=[]∧Q .normal a w
 | fuel+1,listed,a,w =>
  (Region.ready md ops listed=[] → Q .normal a w) ∧
  ∀ i ∈ Region.ready md ops listed,wpOp P ops Q i (fun a' w'=>if i=k0 then wpAny P md ops Q fuel (listed.setIfInBounds i true) a' w' else C w'∧aX P md ops Q C k0 fuel (listed.setIfInBounds i true) a' w') a w
theorem gW:∀ (fuel:Nat) (listed:Array Bool) (a:Act) (w:World),aX P md ops Q C k0 fuel listed a w → wpAny P md ops Q fuel listed a w
 | 0,_,_,_,h=>h
 | fuel+1,_,_,_,h=>⟨h.1,fun i hi=>wpOp_mono (fun a' w' h'=>by
   by_cases e:i=k0
   ·rw [if_pos e] at h';exact h'
   ·rw [if_neg e] at h';exact gW fuel _ a' w' h'.2) (h.2 i hi)⟩
theorem mZ {i:Nat} {oi:Oper} {v:Value} (hi:ops[i]?=some oi) (hsel:∀ (j:Nat) (o:Oper) cs b,ops[j]?=some o → o.op ≠ .select cs b)
  (hQ:∀ c a w,Q (.panic c) (a.put oi.dst v) w → Q (.panic c) a w) (hw:Region.waitsFor md ops k0 i=true) (hne:i ≠ k0) :
  ∀ (fuel:Nat) (listed:Array Bool) (a:Act) (w:World),
   (∀ j oj,ops[j]?=some oj → j ≠ i → listed.getD j true=false → (∀ e ∈ oj.after,Region.binds md e=true → e.on ≠ i) → oi.apart ops oj=true) →
   i ∈ Region.ready md ops listed → YieldsIf P ops C oi v a → C w →
   aX P md ops Q C k0 fuel (listed.setIfInBounds i true) (a.put oi.dst v) w → aX P md ops Q C k0 (fuel+1) listed a w:=by
 obtain ⟨ok0,hok0,ek,hek,hbk,hon⟩:=Region.waitsFor_spec hw
 intro fuel
 induction fuel with
 | zero =>
  intro listed a w _ hr hy hS H
  refine ⟨fun h=>(by rw [h] at hr;cases hr),fun j hj=>?_⟩
  by_cases hji:j=i
  ·subst hji
   rw [show (fun a' w'=>if j=k0 then wpAny P md ops Q 0 (listed.setIfInBounds j true) a' w' else C w'∧aX P md ops Q C k0 0 (listed.setIfInBounds j true) a' w')=(fun a' w'=>C w'∧aX P md ops Q C k0 0 (listed.setIfInBounds j true) a' w') from by funext a' w';rw [if_neg hne]]
   exact hy.wpOp hi hS ⟨hS,H⟩
  ·have:=ready_mono hj hji
   rw [H.1] at this
   cases this
 | succ fuel ih =>
  intro listed a w hfree hr hy hS H
  refine ⟨fun h=>(by rw [h] at hr;cases hr),fun j hj=>?_⟩
  by_cases hji:j=i
  ·subst hji
   rw [show (fun a' w'=>if j=k0 then wpAny P md ops Q (fuel+1) (listed.setIfInBounds j true) a' w' else C w'∧aX P md ops Q C k0 (fuel+1) (listed.setIfInBounds j true) a' w')=(fun a' w'=>C w'∧aX P md ops Q C k0 (fuel+1) (listed.setIfInBounds j true) a' w') from by funext a' w';rw [if_neg hne]]
   exact hy.wpOp hi hS ⟨hS,H⟩
  ·obtain ⟨hjun,oj,hoj,hall⟩:=mem_ready.1 hj
   have hnot:∀ e ∈ oj.after,Region.binds md e=true → e.on ≠ i:=fun e he hb heq=>by
    have h1:=hall e he hb
    have h0:=(mem_ready.1 hr).1
    rw [heq] at h1
    rcases Nat.lt_or_ge i listed.size with h'|h'
    ·simp [h'] at h0 h1;rw [h0] at h1;cases h1
    ·simp [Array.getElem?_eq_none h'] at h1
   have hjk:j ≠ k0:=fun e=>by
    subst e
    have:ok0=oj:=Option.some.inj (hok0.symm.trans hoj)
    subst this
    exact hnot ek hek hbk hon
   have h1:=H.2 j (ready_mono hj hji)
   rw [show (fun a' w'=>if j=k0 then wpAny P md ops Q fuel ((listed.setIfInBounds i true).setIfInBounds j true) a' w' else C w'∧aX P md ops Q C k0 fuel ((listed.setIfInBounds i true).setIfInBounds j true) a' w')=(fun a' w'=>C w'∧aX P md ops Q C k0 fuel ((listed.setIfInBounds i true).setIfInBounds j true) a' w') from by funext a' w';rw [if_neg hjk]] at h1
   rw [show (fun a' w'=>if j=k0 then wpAny P md ops Q (fuel+1) (listed.setIfInBounds j true) a' w' else C w'∧aX P md ops Q C k0 (fuel+1) (listed.setIfInBounds j true) a' w')=(fun a' w'=>C w'∧aX P md ops Q C k0 (fuel+1) (listed.setIfInBounds j true) a' w') from by funext a' w';rw [if_neg hjk]]
   have h2:=wpOp_putIf hoj (hfree j oj hoj hji hjun hnot) (fun cs b=>hsel i oi cs b hi) (fun cs b=>hsel j oj cs b hoj) hQ hy h1
   have hfree':∀ k ok,ops[k]?=some ok → k ≠ i → (listed.setIfInBounds j true).getD k true=false →
     (∀ e ∈ ok.after,Region.binds md e=true → e.on ≠ i) → oi.apart ops ok=true:=fun k ok hk hki hun hno=>by
    refine hfree k ok hk hki ?_ hno
    by_cases hjk:j=k
    ·subst hjk;exact hjun
    ·rw [getD_set_ne true hjk] at hun;exact hun
   refine wpOp_mono (fun a' w' h3=>⟨h3.2.1,ih (listed.setIfInBounds j true) a' w' hfree' (ready_mono hr (Ne.symm hji)) h3.1 h3.2.1 ?_⟩) h2
   rw [Array.setIfInBounds_comm _ _ hji]
   exact h3.2.2
/-- Take number i first: k0 waits for it, and it yields v in every world that meets C. -/
theorem wpAnyT_take {i:Nat} {oi:Oper} {v:Value} {fuel:Nat} {listed:Array Bool} {a:Act} {w:World} (hi:ops[i]?=some oi)
  (hs:Region.noSelect ops=true) (hf:Region.free md ops listed i=true) (hr:(Region.ready md ops listed).contains i=true) (hw:Region.waitsFor md ops k0 i=true) (hne:(i == k0)=false)
  (hQ:∀ c a w,Q (.panic c) (a.put oi.dst v) w → Q (.panic c) a w) (hy:YieldsIf P ops C oi v a) (hS:C w)
  (h:aX P md ops Q C k0 fuel (listed.setIfInBounds i true) (a.put oi.dst v) w):aX P md ops Q C k0 (fuel+1) listed a w :=
 mZ hi (Region.noSelect_spec hs) hQ hw (by simpa using hne) fuel listed a w (Region.free_spec hi hf) (by simpa using hr) hy hS h
/-- Number i, not the tail's, is the only one that may come up: behind it C is shown anew. -/
theorem wpAnyT_one {i:Nat} {o:Oper} {fuel:Nat} {listed:Array Bool} {a:Act} {w:World} (hr:Region.ready md ops listed=[i]) (hne:(i == k0)=false) (ho:ops[i]?=some o)
  (h:∀ K':Act → World → Prop,Shut (∀ a w,C w → (C w → aX P md ops Q C k0 fuel (listed.setIfInBounds i true) a w) → K' a w) → if Region.wanted o (yielded ops a.tmps)=true then Oper.wp P o a w K' Q else K' (a.put o.dst undef) w) :
  aX P md ops Q C k0 (fuel+1) listed a w:=by
 refine ⟨fun h0=>(by rw [hr] at h0;cases h0),fun j hj=>?_⟩
 rw [hr] at hj
 obtain rfl:j=i:=by simpa using hj
 refine wpOp_step ho (fun K' hK=>h K' (fun a w hS hW=>hK a w ?_))
 rw [if_neg (by simpa using hne)]
 exact ⟨hS,hW hS⟩
/-- The tail: its operations come one behind the other. -/
theorem wpAnyT_tail {l:List Oper} {fuel:Nat} {listed:Array Bool} {a:Act} {w:World} (t:List Oper) (o:Oper) (ht:(l.drop k0)=o :: t) (hf:fuel=t.length+1) (hB:Region.seqB md l.toArray fuel k0 listed=true)
  (h:wpList P l.toArray Q (o :: t) a w):aX P md l.toArray Q C k0 fuel listed a w:=by
 subst hf
 have H:=wpAny_of_seq (md:=md) (o :: t) k0 listed a w (fun j=>by rw [← ht];simp [List.getElem?_drop]) hB h
 have hr:Region.ready md l.toArray listed=[k0]:=by
  simp only [Region.seqB,Bool.and_eq_true,decide_eq_true_eq] at hB
  exact hB.1
 refine ⟨fun h0=>(by rw [hr] at h0;cases h0),fun j hj=>?_⟩
 have hj':=hj
 rw [hr] at hj'
 obtain rfl:j=k0:=by simpa using hj'
 refine wpOp_mono (fun a' w' h'=>?_) (H.2 j hj)
 rw [if_pos rfl]
 exact h'
theorem aJ {id:Nat} {a:Act} {w:World} (C:World → Prop) (k0:Nat) (hm:P.follows .mixedOrders=true) (hS:C w.drew)
  (h:C w.drew → aX P .any ops Q C k0 ops.size (Array.replicate ops.size false) a w.drew):(Code.region id ops true).wp P Q a w :=
 wp_region_any hm (gW _ _ _ _ (h hS))
end
end Go.Proofs.YtmihnoagagbgaaaGreat
namespace Go.Proofs.YtmihnoagagbgaaaGreat
open Go Go.RowKit
set_option maxRecDepth 100000
set_option maxHeartbeats 16000000
def gP (cs:Array Value):Nat → List Value → Array Value
 | _,[]=>cs
 | o,v :: r=>gP (cs.setIfInBounds o v) (o+1) r
theorem ik:∀ (vs:List Value) (o:Nat) (cs:Array Value) (i:Nat),(gP cs o vs)[i]?=if o≤i∧i < o+vs.length∧i < cs.size then vs[i - o]? else cs[i]?
 | [],o,cs,i=>by rw [if_neg (show ¬ (o≤i∧i < o+([]:List Value).length∧i < cs.size) by simp;omega)];rfl
 | v :: r,o,cs,i=>by
  unfold gP
  rw [ik r (o+1),Array.getElem?_setIfInBounds]
  simp only [Array.size_setIfInBounds,List.length_cons]
  by_cases h1:i=o
  ·subst h1
   rw [if_neg (by omega),if_pos rfl]
   by_cases h2:i < cs.size
   ·rw [if_pos h2,if_pos (by omega)];simp
   ·rw [if_neg h2,if_neg (by omega)];simp;omega
  ·by_cases h2:o≤i∧i < o+(r.length+1)∧i < cs.size
   ·rw [if_pos (show o+1≤i∧i < o+1+r.length∧i < cs.size by omega),if_pos h2,show i - o=(i - (o+1))+1 by omega,List.getElem?_cons_succ]
   ·rw [if_neg (show ¬ (o+1≤i∧i < o+1+r.length∧i < cs.size) by omega),if_neg (show ¬ o=i from fun e=>h1 e.symm),if_neg h2]
theorem fF {vs:List Value} {o:Nat} {cs cs':Array Value} (h:o+vs.length≤cs.size) (hcs:cs'.toList=cs.toList.take o ++ vs ++ cs.toList.drop (o+vs.length)):gP cs o vs=cs':=by
 apply Array.ext_getElem?
 intro i
 rw [ik,← Array.getElem?_toList (xs:=cs'),hcs]
 by_cases h1:i < o
 ·rw [if_neg (by omega),List.append_assoc,List.getElem?_append_left (by simp;omega),List.getElem?_take,if_pos h1];simp
 ·by_cases h2:i < o+vs.length
  ·rw [if_pos (by omega),List.append_assoc,List.getElem?_append_right (by simp;omega),List.getElem?_append_left (by simp;omega)]
   congr 1
   simp
   omega
  ·rw [if_neg (by omega),List.getElem?_append_right (by simp;omega),List.getElem?_drop,← Array.getElem?_toList]
   congr 1
   simp
   omega
theorem pQ {vs cs:Array Value} (h:cs.size=vs.size):gP cs 0 vs.toList=vs:=by
 apply Array.ext_getElem?
 intro i
 rw [ik]
 by_cases hi:i < vs.size
 ·rw [if_pos (by simp;omega)];simp
 ·rw [if_neg (by simp;omega),Array.getElem?_eq_none (by omega),Array.getElem?_eq_none (by omega)]
theorem Blk.setCells {g:Nat} {e:TypeId}:∀ (vs:List Value) (o:Nat) (w:World) (cs:Array Value),Blk w g e cs → Blk (w.setCells g o vs) g e (gP cs o vs)
 | [],_,_,_,h=>h
 | v :: r,o,w,cs,h=>Blk.setCells r (o+1) _ _ (h.set_ o v)
theorem dr {g:Nat}:∀ (vs:List Value) (o:Nat) (w:World),w.grownBy (w.setCells g o vs) (some g)
 | [],_,w=>⟨rfl,rfl,rfl,Nat.le_refl _,fun _ _ _=>rfl⟩
 | v :: r,o,w=>by
  have h1:w.grownBy (w.setCell ⟨g,o,none⟩ v) (some g) :=
   have b0:Below 0 w (w.setCell ⟨g,o,none⟩ v):=(Below.refl 0 w).setCell (Nat.zero_le _) v
   ⟨b0.os,b0.tape,b0.output,b0.size,fun k hk hne=>Below.heap_setCell w ⟨g,o,none⟩ v k (fun e=>hne (by rw [e]))⟩
  have h2:=dr (g:=g) r (o+1) (w.setCell ⟨g,o,none⟩ v)
  exact ⟨h2.os.trans h1.os,h2.tape.trans h1.tape,h2.output.trans h1.output,Nat.le_trans h1.size h2.size,fun k hk hne=>(h2.block k (Nat.lt_of_lt_of_le hk h1.size) hne).trans (h1.block k hk hne)⟩
section
variable {P:Program} {ops:Array Oper} {rest:List Oper} {op:Oper} {a:Act} {w:World} {Q:Exit → Act → World → Prop}
/-- A part of a block is stored. -/
theorem wpList_store_blk (hgd:op.guard=none) (ty:TypeId) (x y:Operand) (ho:op.op=.store ty x y) (g off:Nat) (vs:Array Value) (hx:a.eval x=.pointer (some ⟨g,off,none⟩)) (hy:a.eval y=.agg vs)
  (e:TypeId) (cs cs':Array Value) (hb:Blk w g e cs) (hfit:off+vs.size≤cs.size) (hi:(P.info? ty).map (·.size)=some vs.size) (h1:vs.all (·.oneCell')=true) (hcs:cs'.toList=cs.toList.take off ++ vs.toList ++ cs.toList.drop (off+vs.size))
  (h:∀ w',Blk w' g e cs' → w.grownBy w' (some g) → wpList P ops Q rest (a.put op.dst undef) w'):wpList P ops Q (op :: rest) a w:=by
 have hcs:=fF (vs:=vs.toList) (o:=off) (cs:=cs) (cs':=cs') (by simpa using hfit) (by simpa using hcs)
 subst hcs
 refine wpList_store_mid hgd ty x y ho g off vs hx hy (fun j hj=>⟨?_,hb.frozen _⟩) hi h1 (h _ (Blk.setCells _ _ _ _ hb) (dr _ _ _))
 rw [hb.cell]
 simp
 omega
/-- The same, aK a region that draws its order. -/
theorem oper_store_blk {K:Act → World → Prop} (ty:TypeId) (x y:Operand) (ho:op.op=.store ty x y) (g off:Nat) (vs:Array Value) (hx:a.eval x=.pointer (some ⟨g,off,none⟩)) (hy:a.eval y=.agg vs)
  (e:TypeId) (cs cs':Array Value) (hb:Blk w g e cs) (hfit:off+vs.size≤cs.size) (hi:(P.info? ty).map (·.size)=some vs.size) (h1:vs.all (·.oneCell')=true) (hcs:cs'.toList=cs.toList.take off ++ vs.toList ++ cs.toList.drop (off+vs.size))
  (h:∀ w',Blk w' g e cs' → w.grownBy w' (some g) → K (a.put op.dst undef) w'):op.wp P a w K Q:=by
 have hcs:=fF (vs:=vs.toList) (o:=off) (cs:=cs) (cs':=cs') (by simpa using hfit) (by simpa using hcs)
 subst hcs
 refine wp_store_mid ty x y ho g off vs hx hy (fun j hj=>⟨?_,hb.frozen _⟩) hi h1 (h _ (Blk.setCells _ _ _ _ hb) (dr _ _ _))
 rw [hb.cell]
 simp
 omega
/-- The whole of a block is stored. -/
theorem wpList_store_all (hgd:op.guard=none) (ty:TypeId) (x y:Operand) (ho:op.op=.store ty x y) (g:Nat) (vs:Array Value) (hx:a.eval x=.pointer (some ⟨g,0,none⟩)) (hy:a.eval y=.agg vs)
  (e:TypeId) (cs:Array Value) (hb:Blk w g e cs) (hfit:cs.size=vs.size) (hi:(P.info? ty).map (·.size)=some vs.size) (h1:vs.all (·.oneCell')=true)
  (h:∀ w',Blk w' g e vs → w.grownBy w' (some g) → wpList P ops Q rest (a.put op.dst undef) w'):wpList P ops Q (op :: rest) a w :=
 wpList_store_blk hgd ty x y ho g 0 vs hx hy e cs vs hb (by omega) hi h1 (by simp [hfit]) h
/-- A part of a block is loaded. -/
theorem wpList_load_blk (hgd:op.guard=none) (ty:TypeId) (x:Operand) (ho:op.op=.load ty x) (g off:Nat) (hx:a.eval x=.pointer (some ⟨g,off,none⟩)) (e:TypeId) (cs vs:Array Value) (d:TypeDesc) (hb:Blk w g e cs)
  (hu:P.underlying ty=some d) (hd:d.isRow=true) (hi:(P.info? ty).map (·.size)=some vs.size) (hvs:(cs.toList.drop off).take vs.size=vs.toList)
  (h:wpList P ops Q rest (a.put op.dst (.agg vs)) w):wpList P ops Q (op :: rest) a w:=by
 refine wpList_load_mid hgd ty x ho g off hx vs.toList d (fun j v hv=>?_) hu hd (by simpa using hi) (by simpa using h)
 rw [hb.cell]
 rw [← hvs,List.getElem?_take] at hv
 split at hv
 ·rw [List.getElem?_drop] at hv
  simpa using hv
 ·cases hv
/-- In a region that draws its order: the load of a part of a block may be taken first where the condition gives the block. -/
theorem yieldsIf_load_blk {S:World → Prop} (hw:Region.wanted op (yielded ops a.tmps)=true) (ty:TypeId) (x:Operand) (ho:op.op=.load ty x) (g off:Nat) (hx:a.eval x=.pointer (some ⟨g,off,none⟩)) (e:TypeId) (cs vs:Array Value) (d:TypeDesc)
  (hS:∀ w,S w → Blk w g e cs) (hu:P.underlying ty=some d) (hd:d.isRow=true) (hi:(P.info? ty).map (·.size)=some vs.size) (hvs:(cs.toList.drop off).take vs.size=vs.toList):YieldsIf P ops S op (.agg vs) a:=by
 have:=yieldsIf_load_mid (P:=P) (ops:=ops) (S:=S) (op:=op) (a:=a) hw ty x ho g off hx vs.toList d (fun w hs j v hv=>by
  rw [(hS w hs).cell]
  rw [← hvs,List.getElem?_take] at hv
  split at hv
  ·rw [List.getElem?_drop] at hv
   simpa using hv
  ·cases hv) hu hd (by simpa using hi)
 simpa using this
end
theorem _root_.Go.RowKit.Hid.o {p:Prop} (h:Hid p):p:=h.out
theorem zH {p:Prop} (h:p):Hid p:=Lib.hid h
theorem pX:(∀ (a:Act) (d:Tmp) (v:Value),a.put (some d) v={ a with tmps:=a.tmps.setIfInBounds d v })∧(∀ (a:Act) (v:Value),a.put none v=a)∧(∀ (α:Type) (l:List α) (i:Nat) (h:i < l.toArray.size),l.toArray[i]=l[i]'(by simpa using h)) ∧
  (∀ (α:Type) (a:α) (l:List α) (i:Nat) (h:i+1 < (a :: l).length),(a :: l)[i+1]=l[i]'(by simpa using h))∧(∀ (α:Type) (a:α) (l:List α) (h:0 < (a :: l).length),(a :: l)[0]=a) ∧
  (∀ (α:Type) (l:List α) (i:Nat) (a:α),l.toArray.setIfInBounds i a=(l.set i a).toArray)∧(∀ (α:Type) (a b:α) (l:List α),(a :: l).set 0 b=b :: l)∧(∀ (α:Type) (a b:α) (l:List α) (i:Nat),(a :: l).set (i+1) b=a :: l.set i b) :=
 ⟨fun _ _ _=>rfl,fun _ _=>rfl,fun _ _ _ _=>rfl,fun _ _ _ _ _=>rfl,fun _ _ _ _=>rfl,fun _ _ _ _=>by simp,fun _ _ _ _=>rfl,fun _ _ _ _ _=>rfl⟩
theorem gX:(∀ (α:Type) (l:List α) (i:Nat),l.toArray[i]?=l[i]?)∧(∀ (α:Type) (a:α) (l:List α) (i:Nat),(a :: l)[i+1]?=l[i]?)∧(∀ (α:Type) (a:α) (l:List α),(a :: l)[0]?=some a) :=
 ⟨fun _ _ _=>by simp,fun _ _ _ _=>by simp,fun _ _ _=>by simp⟩
/-- A node's cells. -/
abbrev nN (a b c d e f g h i:Int) (W:Option Addr) (m n:Nat) (B:Option Addr) (p q:Nat) (r s t u v w x y:Int):Array Value:=#[.int .i64 a,.int .i64 b,.int .i64 c,.int .i64 d,.int .i64 e,.int .i64 f,.int .i64 g,.int .i8 h,.int .i8 i,.slice W m n,.slice B p q,.int .i32 r,.int .i64 s,.int .i8 t,.int .i32 u,.int .i64 v,.int .i8 w,.int .i8 x,.int .i8 y]
abbrev tN (a b c:Int) (A:Option Addr) (m n:Nat):Array Value:=#[.int .i64 a,.int .i64 b,.int .i64 c,.slice A m n]
abbrev sN (a b c:Int):Array Value:=#[.int .i64 a,.int .i64 b,.int .i64 c]
theorem rC {P:Program} {fn:Func} {R:Ending → World → Prop} {a:Act} {w:World} {p u:Nat} {ty:TypeId} {g:Nat} {e:TypeId} {cs:Array Value} {fs:Array Field} (hb:Blk w g e cs) (hu:P.underlying ty=some (.struct fs)) (hR:R (.returned (.tuple #[.agg cs,a.tmps.getD u undef])) w)
  (h:fn.results=#[.cell p ty,.tmp u]:=by rfl) (hp:a.tmps.getD p undef=.pointer (some ⟨g,0,none⟩):=by rfl) (hi:(P.info? ty).map (·.size)=some cs.size:=by kernel_rfl) (hd:a.defers=[]:=by rfl):bodyPost P fn R .ret a w:=ret_cell_tmp h hb hp hu hi hd hR
/-- A block laid next, its world under a name. -/
theorem nB (w:World) (cs:Array Value) (e:TypeId):∃ w',w.alloc (.cells cs e)=w'∧Hid (Blk w' w.heap.size e cs)∧Below w.heap.size w w':=⟨_,rfl,Lib.hid (Blk.now _ _ _ _ rfl),(Below.refl _ _).alloc (Nat.le_refl _) _⟩
section
variable {P:Program} {ops:Array Oper} {Q:Exit → Act → World → Prop} {md:Region.Mode} {C S:World → Prop} {k0:Nat}
theorem tkT (i:Nat) {oi:Oper} (hi:ops[i]?=some oi) {v:Value} {fuel:Nat} {listed:Array Bool} {a:Act} {w:World} (hy:YieldsIf P ops C oi v a) (hS:C w)
  (h:aX P md ops Q C k0 fuel (listed.setIfInBounds i true) (a.put oi.dst v) w)
  (hs:Region.noSelect ops=true:=by as_aux_lemma=>kernel_rfl) (hf:Region.free md ops listed i=true:=by as_aux_lemma=>kernel_rfl) (hr:(Region.ready md ops listed).contains i=true:=by as_aux_lemma=>kernel_rfl) (hw:Region.waitsFor md ops k0 i=true:=by as_aux_lemma=>kernel_rfl) (hne:(i == k0)=false:=by rfl)
  (hQ:∀ c a w,Q (.panic c) (a.put oi.dst v) w → Q (.panic c) a w:=by exact fun _ _ _ h=>h):aX P md ops Q C k0 (fuel+1) listed a w:=wpAnyT_take hi hs hf hr hw hne hQ hy hS h
theorem tkH (i:Nat) {oi:Oper} (hi:ops[i]?=some oi) {v:Value} {fuel:Nat} {listed:Array Bool} {a:Act} {w:World} (hy:YieldsIf P ops S oi v a) (hS:S w)
  (h:wpAnyH P md ops Q S fuel (listed.setIfInBounds i true) (a.put oi.dst v) w)
  (hs:Region.noSelect ops=true:=by as_aux_lemma=>kernel_rfl) (hf:Region.free md ops listed i=true:=by as_aux_lemma=>kernel_rfl) (hr:(Region.ready md ops listed).contains i=true:=by as_aux_lemma=>kernel_rfl)
  (hQ:∀ c a w,Q (.panic c) (a.put oi.dst v) w → Q (.panic c) a w:=by exact fun _ _ _ h=>h):wpAnyH P md ops Q S (fuel+1) listed a w:=wpAnyH_take hi hs hf hr hQ hy hS h
theorem kH (i:Nat) {oi:Oper} (hi:ops[i]?=some oi) {v:Value} {fuel:Nat} {listed:Array Bool} {a:Act} {w:World} (hS:S w) (h:wpAnyH P md ops Q S fuel (listed.setIfInBounds i true) (a.put oi.dst v) w)
  (hy:YieldsIf P ops S oi v a:=by exact Or.inl ⟨by rfl,by (intro w hSw;(try dsimp only at hSw);go_simp;try with_reducible rfl)⟩)
  (hs:Region.noSelect ops=true:=by as_aux_lemma=>kernel_rfl) (hf:Region.free md ops listed i=true:=by as_aux_lemma=>kernel_rfl) (hr:(Region.ready md ops listed).contains i=true:=by as_aux_lemma=>kernel_rfl)
  (hQ:∀ c a w,Q (.panic c) (a.put oi.dst v) w → Q (.panic c) a w:=by exact fun _ _ _ h=>h):wpAnyH P md ops Q S (fuel+1) listed a w:=wpAnyH_take hi hs hf hr hQ hy hS h
theorem kT (i:Nat) {oi:Oper} (hi:ops[i]?=some oi) {v:Value} {fuel:Nat} {listed:Array Bool} {a:Act} {w:World} (hS:C w) (h:aX P md ops Q C k0 fuel (listed.setIfInBounds i true) (a.put oi.dst v) w)
  (hy:YieldsIf P ops C oi v a:=by exact Or.inl ⟨by rfl,by (intro w hSw;(try dsimp only at hSw);go_simp;try with_reducible rfl)⟩)
  (hs:Region.noSelect ops=true:=by as_aux_lemma=>kernel_rfl) (hf:Region.free md ops listed i=true:=by as_aux_lemma=>kernel_rfl) (hr:(Region.ready md ops listed).contains i=true:=by as_aux_lemma=>kernel_rfl) (hw:Region.waitsFor md ops k0 i=true:=by as_aux_lemma=>kernel_rfl) (hne:(i == k0)=false:=by rfl)
  (hQ:∀ c a w,Q (.panic c) (a.put oi.dst v) w → Q (.panic c) a w:=by exact fun _ _ _ h=>h):aX P md ops Q C k0 (fuel+1) listed a w:=wpAnyT_take hi hs hf hr hw hne hQ hy hS h
theorem rH (i:Nat) {o:Oper} (ho:ops[i]?=some o) {fuel:Nat} {listed:Array Bool} {a:Act} {w:World}
  (h:∀ K':Act → World → Prop,Shut (∀ a w,S w → (S w → wpAnyH P md ops Q S fuel (listed.setIfInBounds i true) a w) → K' a w) → if Region.wanted o (yielded ops a.tmps)=true then Oper.wp P o a w K' Q else K' (a.put o.dst undef) w)
  (hr:Region.ready md ops listed=[i]:=by kernel_rfl):wpAnyH P md ops Q S (fuel+1) listed a w:=wpAnyH_ready hr (by simp) (AllReadyH.cons ho h AllReadyH.nil)
end
section
variable {P:Program} {ops:Array Oper} {rest:List Oper} {op:Oper} {a:Act} {w:World} {Q:Exit → Act → World → Prop}
theorem lB (ty:TypeId) (x:Operand) (g:Nat) {e:TypeId} {cs:Array Value} {d:TypeDesc} (hb:Blk w g e cs) (hu:P.underlying ty=some d) (h:wpList P ops Q rest (a.put op.dst (.agg cs)) w)
  (hgd:op.guard=none:=by rfl) (ho:op.op=.load ty x:=by rfl) (hx:a.eval x=.pointer (some ⟨g,0,none⟩):=by rfl) (hd:d.isRow=true:=by rfl) (hi:(P.info? ty).map (·.size)=some cs.size:=by kernel_rfl):wpList P ops Q (op :: rest) a w :=
 wpList_load_blk hgd ty x ho g 0 hx e cs cs d hb hu hd hi (by rw [List.drop_zero,List.take_of_length_le (by simp)]) h
theorem sB (ty:TypeId) (x y:Operand) (g:Nat) (vs:Array Value) {e:TypeId} {cs:Array Value} (hb:Blk w g e cs) (h:∀ w',Blk w' g e vs → w.grownBy w' (some g) → wpList P ops Q rest (a.put op.dst undef) w')
  (hgd:op.guard=none:=by rfl) (ho:op.op=.store ty x y:=by rfl) (hx:a.eval x=.pointer (some ⟨g,0,none⟩):=by rfl) (hy:a.eval y=.agg vs:=by rfl) (hn:cs.size=vs.size:=by rfl) (hi:(P.info? ty).map (·.size)=some vs.size:=by kernel_rfl) (h1:vs.all (·.oneCell')=true:=by rw [← Array.all_toList];rfl):wpList P ops Q (op :: rest) a w :=
 wpList_store_all hgd ty x y ho g vs hx hy e cs hb hn hi h1 h
theorem yB {S:World → Prop} (ty:TypeId) (x:Operand) (g:Nat) {e:TypeId} {cs:Array Value} {d:TypeDesc} (hS:∀ w,S w → Blk w g e cs) (hu:P.underlying ty=some d)
  (hw:Region.wanted op (yielded ops a.tmps)=true:=by rfl) (ho:op.op=.load ty x:=by rfl) (hx:a.eval x=.pointer (some ⟨g,0,none⟩):=by rfl) (hd:d.isRow=true:=by rfl) (hi:(P.info? ty).map (·.size)=some cs.size:=by kernel_rfl):YieldsIf P ops S op (.agg cs) a :=
 yieldsIf_load_blk hw ty x ho g 0 hx e cs cs d hS hu hd hi (by rw [List.drop_zero,List.take_of_length_le (by simp)])
end
end Go.Proofs.YtmihnoagagbgaaaGreat
namespace Go.Proofs.YtmihnoagagbgaaaGreat
open Go.RowKit
set_option maxRecDepth 100000
set_option maxHeartbeats 16000000
/-- The worlds in which all that lies in w0 is as it was. -/
def Ext (w0:World):Type:={ w:World // Below w0.heap.size w0 w }
def Ext.here (w0:World):Ext w0:=⟨w0,Below.refl _ _⟩
instance (w0:World):Nonempty (Ext w0):=⟨Ext.here w0⟩
section
variable {P:Program} {w0:World}
theorem aB {id:Nat} {Q:Exit → Act → World → Prop} {a:Act} {w:World} {l:List Oper} (w0:World) (hm:P.follows .mixedOrders=true) (hB:Region.lexB .any l.toArray=true) (h0:Below w0.heap.size w0 w)
  (h:wpQuiet P l.toArray (fun w'=>∃ x:Ext w0,w'=x.1) (fun a'=>∀ w',(∃ x:Ext w0,w'=x.1) → Q .normal a' w') l a):(Code.region id l.toArray true).wp P Q a w :=
 wp_region_quiet (C:=fun w'=>∃ x:Ext w0,w'=x.1) hm hB ⟨⟨w.drew,h0.drew⟩,rfl⟩ (by simpa using h)
theorem aR {f:FuncId} {args:Array Value} {v:Value} (x:Ext w0) (h:Calls P f args x.1 fun e w'=>e=.returned v∧Below x.1.heap.size x.1 w') :
  Calls P f args x.1 fun e w''=>e=.returned v∧∃ y:Ext w0,w''=y.1 :=
 h.mono fun e w' ⟨he,hb⟩=>⟨he,⟨w',x.2.trans (hb.mono x.2.size)⟩,rfl⟩
theorem lU {p:Addr} {v:Value} (h:w0.cell? p=some v) (x:Ext w0):x.1.cell? p=some v:=(x.2.cell (World.block_lt_of_cell? w0 _ h)).trans h
theorem Blk.ext {g:Nat} {e:TypeId} {cs:Array Value} (h:Blk w0 g e cs) (x:Ext w0):Blk x.1 g e cs:=h.later x.2
end
end Go.Proofs.YtmihnoagagbgaaaGreat
namespace Go.Proofs.YtmihnoagagbgaaaGreat
open Go.RowKit Go.ChangeShapes Go.WideShapes
set_option maxRecDepth 100000
set_option maxHeartbeats 16000000
theorem Sl.fut {α:Type} {t:Ty α} {w w':World} {A:Option Addr} {n cap:Nat} {l:List α} (h:Sl t w (blo w.heap.size) A n cap l) (hb:Below w.heap.size w w'):Sl t w' (blo w'.heap.size) A n cap l:=h.later hb (Nat.le_refl _)
/-- What has been since the call began. -/
structure Far (w0 w:World):Prop where
 out:Below w0.heap.size w0 w
theorem Far.refl (w:World):Far w w:=⟨Below.refl _ _⟩
theorem Far.fut {w0 w w':World} (h:Far w0 w) (hb:Below w.heap.size w w'):Far w0 w':=⟨ag hb h.out⟩
theorem Far.size {w0 w:World} (h:Far w0 w):w0.heap.size≤w.heap.size:=h.out.size
theorem Far.drewN {w0 w:World} (h:Far w0 w) (n:Nat):Far w0 (w.drewN n):=⟨am h.out n⟩
theorem Blk.fut {w w':World} {g:Nat} {e:TypeId} {cs:Array Value} (h:Blk w g e cs) (hb:Below w.heap.size w w'):Blk w' g e cs:=h.later hb
theorem Sl.old {α:Type} {t:Ty α} {w:World} {m:Nat} {A:Option Addr} {n cap:Nat} {l:List α} (h:Sl t w (bin m w.heap.size) A n cap l):Sl t w (blo w.heap.size) A n cap l:=h.more oJ
/-- A result in new memory, seen from where the call began. -/
theorem Sl.since {α:Type} {t:Ty α} {w0 w w':World} {A:Option Addr} {n cap:Nat} {l:List α} (h:Sl t w' (bin w.heap.size w'.heap.size) A n cap l) (hf:Far w0 w):Sl t w' (bin w0.heap.size w'.heap.size) A n cap l:=h.more (aO hf.size (Nat.le_refl _))
/-- A slice of new memory stays one of new memory. -/
structure New (w0:World) {α:Type} (t:Ty α) (w:World) (A:Option Addr) (n cap:Nat) (l:List α):Prop where
 out:Sl t w (bin w0.heap.size w.heap.size) A n cap l
theorem New.fut {w0:World} {α:Type} {t:Ty α} {w w':World} {A:Option Addr} {n cap:Nat} {l:List α} (h:New w0 t w A n cap l) (hb:Below w.heap.size w w'):New w0 t w' A n cap l :=
 ⟨(h.out.below hb fun _ k=>k.2).more (aO (Nat.le_refl _) hb.size)⟩
theorem New.old {w0:World} {α:Type} {t:Ty α} {w:World} {A:Option Addr} {n cap:Nat} {l:List α} (h:New w0 t w A n cap l):Sl t w (blo w.heap.size) A n cap l:=h.out.old
theorem New.set {w0:World} {α:Type} {t:Ty α} {w:World} {A:Option Addr} {n cap:Nat} {l:List α} (h:New w0 t w A n cap l) (p:Addr) (u:Value) (hp:p.block < w0.heap.size):New w0 t (w.setCell p u) A n cap l :=
 ⟨(h.out.keep fun b hb=>Below.heap_setCell w p u b (by have:=hb.1;omega)).more fun b hb=>⟨hb.1,by simpa using hb.2⟩⟩
theorem Far.set {w0 w:World} (h:Far w0 w) (p:Addr) (u:Value) (hp:w0.heap.size≤p.block):Far w0 (w.setCell p u):=⟨h.out.setCell hp _⟩
theorem Far.trans {w0 w1 w2:World} (h:Far w0 w1) (h':Far w1 w2):Far w0 w2:=⟨ag h'.out h.out⟩
theorem New.since {w0 w1:World} {α:Type} {t:Ty α} {w:World} {A:Option Addr} {n cap:Nat} {l:List α} (h:New w1 t w A n cap l) (hf:Far w0 w1):Sl t w (bin w0.heap.size w.heap.size) A n cap l:=h.out.more (aO hf.size (Nat.le_refl _))
theorem New.of {w0 w w':World} {α:Type} {t:Ty α} {A:Option Addr} {n cap:Nat} {l:List α} (h:Sl t w' (bin w.heap.size w'.heap.size) A n cap l) (hf:Far w0 w):New w0 t w' A n cap l:=⟨h.since hf⟩
theorem New.nil (w0:World) {α:Type} (t:Ty α) (w:World):New w0 t w none 0 0 ([]:List α):=⟨Sl.nil _ _ _⟩
end Go.Proofs.YtmihnoagagbgaaaGreat
namespace Go.Proofs.YtmihnoagagbgaaaGreat
open Go Go.RowKit
set_option maxRecDepth 100000
set_option maxHeartbeats 16000000
theorem Blk.away {w w':World} {g m:Nat} {e:TypeId} {cs:Array Value} (h:Blk w g e cs) (hg:w.grownBy w' (some m)) (hne:g < m ∨ m < g):Blk w' g e cs :=
 ⟨(hg.block g h.lt (fun e=>by have:=Option.some.inj e;omega)).trans h.heap⟩
theorem Far.away {w0 w w':World} {m:Nat} (h:Far w0 w) (hg:w.grownBy w' (some m)) (hm:w0.heap.size≤m):Far w0 w' :=
 ⟨h.out.grown hg h.out.size (fun k hk=>by have:=Option.some.inj hk;omega)⟩
theorem New.away {w0:World} {α:Type} {t:Ty α} {w w':World} {A:Option Addr} {n cap m:Nat} {l:List α} (h:New w0 t w A n cap l) (hg:w.grownBy w' (some m)) (hm:m < w0.heap.size):New w0 t w' A n cap l :=
 ⟨(h.out.keep fun b hb=>hg.block b hb.2 (fun e=>by have:=Option.some.inj e;have:=hb.1;omega)).more fun b hb=>⟨hb.1,Nat.lt_of_lt_of_le hb.2 hg.size⟩⟩
theorem Sl.away {α:Type} {t:Ty α} {w w':World} {n0 m:Nat} {A:Option Addr} {n cap:Nat} {l:List α} (h:Sl t w (blo n0) A n cap l) (hg:w.grownBy w' (some m)) (hm:n0≤m) (hn:n0≤w.heap.size):Sl t w' (blo n0) A n cap l :=
 h.keep fun b hb=>hg.block b (Nat.lt_of_lt_of_le hb hn) (fun e=>by have:=Option.some.inj e;have:b < n0:=hb;omega)
/-- A slice of what was there when the call began. -/
structure Old (w0:World) {α:Type} (t:Ty α) (w:World) (A:Option Addr) (n cap:Nat) (l:List α):Prop where
 out:Sl t w (blo w0.heap.size) A n cap l
 le:w0.heap.size≤w.heap.size
section
variable {w0 w w':World} {α:Type} {t:Ty α} {A:Option Addr} {n cap m:Nat} {l:List α}
theorem Old.now (h:Sl t w (blo w.heap.size) A n cap l):Old w t w A n cap l:=⟨h,Nat.le_refl _⟩
theorem Old.fut (h:Old w0 t w A n cap l) (hb:Below w.heap.size w w'):Old w0 t w' A n cap l:=⟨h.out.below hb (fun b hb=>Nat.lt_of_lt_of_le hb h.le),Nat.le_trans h.le hb.size⟩
theorem Old.away (h:Old w0 t w A n cap l) (hg:w.grownBy w' (some m)) (hm:w0.heap.size≤m):Old w0 t w' A n cap l :=
 ⟨h.out.keep fun b hb=>hg.block b (Nat.lt_of_lt_of_le hb h.le) (fun e=>by have:=Option.some.inj e;have:b < w0.heap.size:=hb;omega),Nat.le_trans h.le hg.size⟩
theorem Old.all (h:Old w0 t w A n cap l):Sl t w (blo w.heap.size) A n cap l:=h.out.more (dJ h.le)
theorem Old.draw (h:Old w0 t w A n cap l):Old w0 t w.drew A n cap l:=⟨h.out.keep fun b hb=>rfl,h.le⟩
end
theorem Blk.draw {w:World} {g:Nat} {e:TypeId} {cs:Array Value} (h:Blk w g e cs):Blk w.drew g e cs:=h.drew
theorem Far.draw {w0 w:World} (h:Far w0 w):Far w0 w.drew:=⟨h.out.drew⟩
theorem New.draw {w0:World} {α:Type} {t:Ty α} {w:World} {A:Option Addr} {n cap:Nat} {l:List α} (h:New w0 t w A n cap l):New w0 t w.drew A n cap l:=⟨h.out.keep fun b hb=>rfl⟩
section
variable {P:Program} {ops:Array Oper} {rest:List Oper} {op:Oper} {a:Act} {w:World} {Q:Exit → Act → World → Prop}
/-- One value of one cell is stored. -/
theorem wpList_store_one (hgd:op.guard=none) (ty:TypeId) (x y:Operand) (ho:op.op=.store ty x y) (g off:Nat) (v:Value) (hx:a.eval x=.pointer (some ⟨g,off,none⟩)) (hy:a.eval y=v) (hv:v.cells=#[v]) (h1:v.oneCell'=true)
  (e:TypeId) (cs cs':Array Value) (hb:Blk w g e cs) (hfit:off < cs.size) (hi:(P.info? ty).map (·.size)=some 1) (hcs:cs'.toList=cs.toList.take off ++ [v] ++ cs.toList.drop (off+1))
  (h:∀ w',Blk w' g e cs' → w.grownBy w' (some g) → wpList P ops Q rest (a.put op.dst undef) w'):wpList P ops Q (op :: rest) a w:=by
 have hcs:=fF (vs:=[v]) (o:=off) (cs:=cs) (cs':=cs') (by simp;omega) (by simpa using hcs)
 subst hcs
 have hrun:(storeVar ty ⟨g,off,none⟩ v).run P w=.ok () (w.setCells g off [v]):=by
  have:=run_storeCells_cells (P:=P) g off [v] 0 w (fun j hj=>by simp at hj;subst hj;rw [hb.cell];simp;omega) (fun j hj=>hb.frozen _) (fun u hu=>by simp at hu;subst hu;exact h1)
  cases hq:P.info? ty with
  | none=>simp [hq] at hi
  | some i =>
   have hs:i.size=1:=by simpa [hq] using hi
   simp only [Nat.add_zero] at this
   simp [storeVar,sizeOf,typeInfo,hq,hv,hs,this]
 refine wpList_plain hgd fun K hK=>?_
 unfold Oper.wp execOp
 simp only [ho,hx,hy,Instr.storeAt,Instr.sureAddr,Sem.run_bind,Sem.run_pure,Result.andThen_ok,hrun]
 exact hK _ _ (h _ (Blk.setCells _ _ _ _ hb) (dr _ _ _))
/-- The same, aK a region that draws its order. -/
theorem oper_store_one {K:Act → World → Prop} (ty:TypeId) (x y:Operand) (ho:op.op=.store ty x y) (g off:Nat) (v:Value) (hx:a.eval x=.pointer (some ⟨g,off,none⟩)) (hy:a.eval y=v) (hv:v.cells=#[v]) (h1:v.oneCell'=true)
  (e:TypeId) (cs cs':Array Value) (hb:Blk w g e cs) (hfit:off < cs.size) (hi:(P.info? ty).map (·.size)=some 1) (hcs:cs'.toList=cs.toList.take off ++ [v] ++ cs.toList.drop (off+1))
  (h:∀ w',Blk w' g e cs' → w.grownBy w' (some g) → K (a.put op.dst undef) w'):op.wp P a w K Q:=by
 have hcs:=fF (vs:=[v]) (o:=off) (cs:=cs) (cs':=cs') (by simp;omega) (by simpa using hcs)
 subst hcs
 have hrun:(storeVar ty ⟨g,off,none⟩ v).run P w=.ok () (w.setCells g off [v]):=by
  have:=run_storeCells_cells (P:=P) g off [v] 0 w (fun j hj=>by simp at hj;subst hj;rw [hb.cell];simp;omega) (fun j hj=>hb.frozen _) (fun u hu=>by simp at hu;subst hu;exact h1)
  cases hq:P.info? ty with
  | none=>simp [hq] at hi
  | some i =>
   have hs:i.size=1:=by simpa [hq] using hi
   simp only [Nat.add_zero] at this
   simp [storeVar,sizeOf,typeInfo,hq,hv,hs,this]
 unfold Oper.wp execOp
 simp only [ho,hx,hy,Instr.storeAt,Instr.sureAddr,Sem.run_bind,Sem.run_pure,Result.andThen_ok,hrun]
 exact h _ (Blk.setCells _ _ _ _ hb) (dr _ _ _)
end
theorem ua {w w':World} {g o:Nat} {vs:List Value} (h:w.rangeAt g o vs) (hb:Below w.heap.size w w'):w'.rangeAt g o vs:=fun j v hv=>ao hb (h j v hv)
/-- A fact that stands when memory is added: A at w is B at w'. -/
class Kp (w w':World) (A:Prop) (B:outParam Prop):Prop where
 fut:A → Below w.heap.size w w' → B
/-- A fact that stands when block m is stored into, if C. -/
class St (w w':World) (m:Nat) (A:Prop) (B C:outParam Prop):Prop where
 away:A → w.grownBy w' (some m) → C → B
section
variable {w w':World} {A B X Y:Prop} {m:Nat} {C D:Prop} {w0:World} {α:Type} {t:Ty α} {p:Option Addr} {n cap:Nat} {l:List α} {g o:Nat} {e:TypeId} {cs:Array Value} {vs:List Value}
instance kpAnd [Kp w w' A B] [Kp w w' X Y]:Kp w w' (A∧X) (B∧Y):=⟨fun h hb=>⟨Kp.fut h.1 hb,Kp.fut h.2 hb⟩⟩
instance kpFar:Kp w w' (Far w0 w) (Far w0 w'):=⟨fun h hb=>h.fut hb⟩
instance kpOld:Kp w w' (Old w0 t w p n cap l) (Old w0 t w' p n cap l):=⟨fun h hb=>h.fut hb⟩
instance kpNew:Kp w w' (New w0 t w p n cap l) (New w0 t w' p n cap l):=⟨fun h hb=>h.fut hb⟩
instance kpBlk:Kp w w' (Blk w g e cs) (Blk w' g e cs):=⟨fun h hb=>h.fut hb⟩
instance kpSl:Kp w w' (Sl t w (blo w.heap.size) p n cap l) (Sl t w' (blo w'.heap.size) p n cap l):=⟨fun h hb=>h.fut hb⟩
instance kpRange:Kp w w' (w.rangeAt g o vs) (w'.rangeAt g o vs):=⟨ua⟩
instance stAnd [St w w' m A B C] [St w w' m X Y D]:St w w' m (A∧X) (B∧Y) (C∧D):=⟨fun h g c=>⟨St.away h.1 g c.1,St.away h.2 g c.2⟩⟩
instance stFar:St w w' m (Far w0 w) (Far w0 w') (w0.heap.size≤m):=⟨fun h g c=>h.away g c⟩
instance stOld:St w w' m (Old w0 t w p n cap l) (Old w0 t w' p n cap l) (w0.heap.size≤m):=⟨fun h g c=>h.away g c⟩
instance stNew:St w w' m (New w0 t w p n cap l) (New w0 t w' p n cap l) (m < w0.heap.size):=⟨fun h g c=>h.away g c⟩
instance stBlk:St w w' m (Blk w g e cs) (Blk w' g e cs) (g < m ∨ m < g):=⟨fun h k c=>h.away k c⟩
instance stRange:St w w' m (w.rangeAt g o vs) (w'.rangeAt g o vs) (g < m ∨ m < g):=⟨fun h k c j v hv=>by
 have h1:=h j v hv
 have hlt:=World.block_lt_of_cell? _ _ h1
 rw [World.cell?_of_block (k.block g hlt (fun e=>by have:=Option.some.inj e;omega))]
 exact h1⟩
theorem tF {w w':World} {cs:Array Value} {e:TypeId} (k:(w.alloc (.cells cs e)).grownBy w' (some w.heap.size)):Below w.heap.size w w':=((Below.refl _ _).alloc (Nat.le_refl _) _).grown k (by simp) (fun j h=>by have:=Option.some.inj h;omega)
/-- A block is laid and stored into at once. -/
theorem sF {P:Program} {ops:Array Oper} {rest:List Oper} {op:Oper} {a:Act} {Q:Exit → Act → World → Prop} {cs0:Array Value} (ty:TypeId) (x y:Operand) (v:Array Value) (h:∀ w',Hid (Blk w' w.heap.size e v) → Below w.heap.size w w' → wpList P ops Q rest (a.put op.dst undef) w')
  (hgd:op.guard=none:=by rfl) (ho:op.op=.store ty x y:=by rfl) (hx:a.eval x=.pointer (some ⟨w.heap.size,0,none⟩):=by rfl) (hy:a.eval y=.agg v:=by rfl) (hn:cs0.size=v.size:=by rfl) (hi:(P.info? ty).map (·.size)=some v.size:=by kernel_rfl) (h1:v.all (·.oneCell')=true:=by rw [← Array.all_toList];rfl):wpList P ops Q (op :: rest) a (w.alloc (.cells cs0 e)) :=
 wpList_store_all hgd ty x y ho w.heap.size v hx hy e cs0 (Blk.now _ _ _ _ rfl) hn hi h1 fun w' b k=>h w' (Lib.hid b) (tF k)
/-- A number, a struct, a number are handed back. -/
theorem rTCT {P:Program} {fn:Func} {R:Ending → World → Prop} {a:Act} {u p q:Tmp} {ty:TypeId} {fs:Array Field} (hb:Blk w g e cs) (hu:P.underlying ty=some (.struct fs)) (hR:R (.returned (.tuple #[a.tmps.getD u undef,.agg cs,a.tmps.getD q undef])) w)
  (h:fn.results=#[.tmp u,.cell p ty,.tmp q]:=by rfl) (hp:a.tmps.getD p undef=.pointer (some ⟨g,0,none⟩):=by rfl) (hi:(P.info? ty).map (·.size)=some cs.size:=by kernel_rfl) (hd:a.defers=[]:=by rfl):bodyPost P fn R .ret a w:=by
 refine bodyPost_ret (v:=.tuple #[a.tmps.getD u undef,.agg cs,a.tmps.getD q undef]) ?_ hd hR
 have hp':a.tmps[p]?.getD undef=.pointer (some ⟨g,0,none⟩):=by simpa using hp
 simp [results,h,Sem.run_bind,hp',cK,run_loadVar_row w g e ty cs (0,0) (.struct fs) hb.heap hu rfl hi,Result.andThen]
/-- A part of memory is loaded. -/
theorem lM {P:Program} {ops:Array Oper} {rest:List Oper} {op:Oper} {a:Act} {Q:Exit → Act → World → Prop} {d:TypeDesc} (ty:TypeId) (x:Operand) (r:w.rangeAt g o vs) (hu:P.underlying ty=some d) (h:wpList P ops Q rest (a.put op.dst (.agg vs.toArray)) w)
  (hgd:op.guard=none:=by rfl) (ho:op.op=.load ty x:=by rfl) (hx:a.eval x=.pointer (some ⟨g,o,none⟩):=by rfl) (hd:d.isRow=true:=by rfl) (hi:(P.info? ty).map (·.size)=some vs.length:=by kernel_rfl):wpList P ops Q (op :: rest) a w :=
 wpList_load_mid hgd ty x ho g o hx vs d r hu hd hi h
/-- A block was laid. -/
theorem zL {o:Obj} (h:w.alloc o=w'):w.heap.size < w'.heap.size:=by rw [← h];simp
/-- Memory was added. -/
theorem zF (hb:Below w.heap.size w w') (h:Hid A) [Kp w w' A B]:Hid B:=Lib.hid (Kp.fut h.out hb)
/-- An order was drawn. -/
theorem zD (w:World) (h:Hid A) [Kp w w.drew A B]:Hid B:=zF (Below.refl w.heap.size w).drew h
/-- A fact more. -/
theorem zJ (h:Hid A) (r:X):Hid (A∧X):=Lib.hid ⟨h.out,r⟩
/-- Memory was added, and of what is new something is known. -/
theorem zN (hb:Below w.heap.size w w') (h:Hid A) (r:Hid X) [Kp w w' A B]:Hid (B∧X):=Lib.hid ⟨Kp.fut h.out hb,r.out⟩
/-- Block m was stored into. -/
theorem zA (k:w.grownBy w' (some m)) (h:Hid A) [St w w' m A B C] (c:C:=by omega):Hid B:=Lib.hid (St.away h.out k c)
/-- The block that is last among the facts was stored into. -/
theorem zS {e':TypeId} {cs':Array Value} (k:w.grownBy w' (some m)) (b:Blk w' m e' cs') (h:Hid (A∧Blk w m e cs)) [St w w' m A B C] (c:C:=by omega):Hid (B∧Blk w' m e' cs'):=Lib.hid ⟨St.away h.out.1 k c,b⟩
end
instance kCoe:CoeOut World Nat:=⟨fun w=>w.heap.size⟩
abbrev QA:=Option Addr
abbrev xA (w:World) (A:Option Addr) (n c:Nat) (l:List Int):Prop:=Sl (aa .i8) w (blo w.heap.size) A n c l
abbrev xB (w:World) (A:Option Addr) (n c:Nat) (l:List Int):Prop:=Sl (aa .i32) w (blo w.heap.size) A n c l
theorem lT {a b c:Nat} (h:a≤b) (k:b≤c):a≤c:=Nat.le_trans h k
theorem lR (a:Nat):a≤a:=Nat.le_refl a
theorem _root_.Go.RowKit.Hid.u {w0 w:World} (h:Hid (Far w0 w)):Below w0.heap.size w0 w:=h.out.out
theorem qB (n:Nat) (w:World):Below n w w:=Below.refl n w
theorem zl (a:Nat):0≤a:=Nat.zero_le a
theorem sI {α:Type} {a b:α} (h:some a=some b):a=b:=Option.some.inj h
theorem dF {p:Prop} [Decidable p] (h:¬ p):decide p=false:=decide_eq_false h
theorem qT {p:Prop} [i:Decidable p] (h:p):decide p=true:=decide_eq_true h
theorem mG {α:Type} {l:List α} {i:Nat} {a:α} (h:l[i]?=some a):a ∈ l:=List.mem_of_getElem? h
theorem gD {α:Type} {l:List α} {i:Nat} {a:α}:l.getD i a=l[i]?.getD a:=List.getD_eq_getElem?_getD
theorem wI (n:Int) (h:-9223372036854775808≤n∧n≤9223372036854775807):IntKind.i64.wrap n=n:=IntWalk.i64_in n h
theorem wJ {n:Int} (h:-9223372036854775808≤n∧n≤9223372036854775807:=by omega):IntKind.i64.wrap n=n:=IntWalk.i64_in n h
theorem oM {p:Prop} (h:p:=by omega):p:=h
theorem sM {p:Prop} (h:p:=by simp):p:=h
theorem dM {p:Prop} (h:p:=by decide):p:=h
theorem kM {p:Prop} (h:p:=by kernel_rfl):p:=h
theorem zW (w:World):Hid (Far w w):=Lib.hid (Far.refl w)
theorem zO {w0 w:World} {α:Type} {t:Ty α} {p:Option Addr} {n c:Nat} {l:List α} (h:Hid (Sl t w0 (blo w0.heap.size) p n c l)) (f:Hid (Far w0 w)):Sl t w (blo w.heap.size) p n c l:=((Old.now h.out).fut f.out.out).all
theorem nF {w0 w:World} (f:Hid (Far w0 w)) (cs:Array Value) (e:TypeId):∃ w',w.alloc (.cells cs e)=w'∧Hid (Blk w' w.heap.size e cs)∧Hid (Far w0 w'):=⟨_,rfl,Lib.hid (Blk.now _ _ _ _ rfl),Lib.hid (f.out.fut ((Below.refl w.heap.size w).alloc (Nat.le_refl _) _))⟩
theorem qM {P:Program} {f:FuncId} {xs:Array Value} {w:World} {E:Ending} {B:World → Prop} {Q:Ending → World → Prop} (h:Calls P f xs w fun e w'=>e=E∧B w') (k:∀ w',B w' → Q E w'):Calls P f xs w Q :=
 h.mono (by rintro e w' ⟨rfl,hb⟩;exact k w' hb)
section
variable {w w':World} {n:Nat} {w0:World} {a:Addr} {v:Value} {g:Nat}
instance kpBel:Kp w w' (Below w0.heap.size w0 w) (Below w0.heap.size w0 w'):=⟨fun h hb=>ag hb h⟩
instance kpCell:Kp w w' (w.cell? a=some v) (w'.cell? a=some v):=⟨fun h hb=>ao hb h⟩
theorem zR {A B:Prop} (hb:Below w.heap.size w w') (h:A) [Kp w w' A B]:B:=Kp.fut h hb
end
section
variable {P:Program} {ops:Array Oper} {rest:List Oper} {op:Oper} {a:Act} {w:World} {Q:Exit → Act → World → Prop} {ty:TypeId} {x y:Operand} {g:Nat} {e:TypeId} {cs:Array Value}
theorem ul {o:Option TypeDesc} (h:o.any (·.isRow)=true):∃ d,o=some d∧d.isRow=true:=by
 cases o with
 | none=>cases h
 | some d=>exact ⟨d,rfl,h⟩
theorem lG (hb:Blk w g e cs) (h:wpList P ops Q rest (a.put op.dst (.agg cs)) w)
  (hgd:op.guard=none:=by rfl) (ho:op.op=.load ty x:=by rfl) (hx:a.eval x=.pointer (some ⟨g,0,none⟩):=by rfl) (hi:(P.info? ty).map (·.size)=some cs.size:=by kernel_rfl) (hd:(P.underlying ty).any (·.isRow)=true:=by kernel_rfl):wpList P ops Q (op :: rest) a w:=by
 obtain ⟨d,hu,hr⟩:=ul hd
 exact wpList_load_blk hgd ty x ho g 0 hx e cs cs d hb hu hr hi (by rw [List.drop_zero,List.take_of_length_le (by simp)]) h
theorem sG (vs:Array Value) (hb:Blk w g e cs) (h:∀ w',Blk w' g e vs → w.grownBy w' (some g) → wpList P ops Q rest (a.put op.dst undef) w')
  (hgd:op.guard=none:=by rfl) (ho:op.op=.store ty x y:=by rfl) (hx:a.eval x=.pointer (some ⟨g,0,none⟩):=by rfl) (hy:a.eval y=.agg vs:=by rfl) (hn:cs.size=vs.size:=by rfl) (hi:(P.info? ty).map (·.size)=some vs.size:=by kernel_rfl) (h1:vs.all (·.oneCell')=true:=by rw [← Array.all_toList];rfl):wpList P ops Q (op :: rest) a w :=
 wpList_store_all hgd ty x y ho g vs hx hy e cs hb hn hi h1 h
theorem rG {fn:Func} {R:Ending → World → Prop} {p u:Nat} (hb:Blk w g e cs) (hR:R (.returned (.tuple #[.agg cs,a.tmps.getD u undef])) w)
  (h:fn.results=#[.cell p ty,.tmp u]:=by rfl) (hp:a.tmps.getD p undef=.pointer (some ⟨g,0,none⟩):=by rfl) (hi:(P.info? ty).map (·.size)=some cs.size:=by kernel_rfl) (hd:a.defers=[]:=by rfl) (hs:((P.underlying ty).any fun d=>match d with|.struct _=>true|_=>false)=true:=by kernel_rfl):bodyPost P fn R .ret a w:=by
 cases hu:P.underlying ty with
 | none=>rw [hu] at hs;cases hs
 | some d =>
  rw [hu] at hs
  cases d <;> first|(cases hs;done)|exact ret_cell_tmp h hb hp hu hi hd hR
end
section
variable {P:Program} {ops:Array Oper} {Q:Exit → Act → World → Prop} {md:Region.Mode} {C S:World → Prop} {k0:Nat}
theorem kH' (i0:Nat) {fuel:Nat} {listed:Array Bool} {w:World} {a0 a1:Act} {o0:Oper} {v0:Value} (hS:S w) (h:wpAnyH P md ops Q S fuel (listed.setIfInBounds i0 true) a1 w)
  (e0:ops[i0]?=some o0:=by rfl) (y0:YieldsIf P ops S o0 v0 a0:=by exact Or.inl ⟨by rfl,(by intro w hSw;(try dsimp only at hSw);go_simp;try with_reducible rfl)⟩) (q0:a0.put o0.dst v0=a1:=by (try simp only [pX]);rfl)
  (f0:Region.free md ops listed i0=true:=by as_aux_lemma=>kernel_rfl) (r0:(Region.ready md ops listed).contains i0=true:=by as_aux_lemma=>kernel_rfl) (p0:∀ c a w,Q (.panic c) (a.put o0.dst v0) w → Q (.panic c) a w:=by exact fun _ _ _ h=>h)
  (hs:Region.noSelect ops=true:=by as_aux_lemma=>kernel_rfl):wpAnyH P md ops Q S (fuel+1) listed a0 w:=by
 subst q0
 exact wpAnyH_take e0 hs f0 r0 p0 y0 hS h
theorem kT' (i0:Nat) {fuel:Nat} {listed:Array Bool} {w:World} {a0 a1:Act} {o0:Oper} {v0:Value} (hS:C w) (h:aX P md ops Q C k0 fuel (listed.setIfInBounds i0 true) a1 w)
  (e0:ops[i0]?=some o0:=by rfl) (y0:YieldsIf P ops C o0 v0 a0:=by exact Or.inl ⟨by rfl,(by intro w hSw;(try dsimp only at hSw);go_simp;try with_reducible rfl)⟩) (q0:a0.put o0.dst v0=a1:=by (try simp only [pX]);rfl)
  (f0:Region.free md ops listed i0=true:=by as_aux_lemma=>kernel_rfl) (r0:(Region.ready md ops listed).contains i0=true:=by as_aux_lemma=>kernel_rfl) (w0:Region.waitsFor md ops k0 i0=true:=by as_aux_lemma=>kernel_rfl) (n0:(i0 == k0)=false:=by rfl) (p0:∀ c a w,Q (.panic c) (a.put o0.dst v0) w → Q (.panic c) a w:=by exact fun _ _ _ h=>h)
  (hs:Region.noSelect ops=true:=by as_aux_lemma=>kernel_rfl):aX P md ops Q C k0 (fuel+1) listed a0 w:=by
 subst q0
 exact wpAnyT_take e0 hs f0 r0 w0 n0 p0 y0 hS h
theorem xK {K R:Act → World → Prop} {T:World → Prop} {a a':Act} {w:World} (hK:Shut (∀ a w,T w → (T w → R a w) → K a w)) (h:T w) (k:T w → R a' w) (q:a=a':=by (try simp only [pX]);rfl):K a w:=by
 subst q
 exact hK.out a w h k
theorem rT (i:Nat) {o:Oper} {fuel:Nat} {listed:Array Bool} {a:Act} {w:World} (h:∀ K':Act → World → Prop,Shut (∀ a w,C w → (C w → aX P md ops Q C k0 fuel (listed.setIfInBounds i true) a w) → K' a w) → if Region.wanted o (yielded ops a.tmps)=true then Oper.wp P o a w K' Q else K' (a.put o.dst undef) w)
  (hr:Region.ready md ops listed=[i]:=by kernel_rfl) (hne:(i == k0)=false:=by rfl) (ho:ops[i]?=some o:=by rfl):aX P md ops Q C k0 (fuel+1) listed a w:=wpAnyT_one hr hne ho h
end
section
variable {P:Program} {ops:Array Oper} {rest:List Oper} {op:Oper} {a:Act} {w:World} {Q:Exit → Act → World → Prop} {ty:TypeId} {x y:Operand} {g off:Nat} {e:TypeId} {cs:Array Value}
theorem lP (vs:Array Value) (hb:Blk w g e cs) (h:wpList P ops Q rest (a.put op.dst (.agg vs)) w)
  (hgd:op.guard=none:=by rfl) (ho:op.op=.load ty x:=by rfl) (hx:a.eval x=.pointer (some ⟨g,off,none⟩):=by rfl) (hi:(P.info? ty).map (·.size)=some vs.size:=by kernel_rfl) (hd:(P.underlying ty).any (·.isRow)=true:=by kernel_rfl) (hv:(cs.toList.drop off).take vs.size=vs.toList:=by rfl):wpList P ops Q (op :: rest) a w:=by
 obtain ⟨d,hu,hr⟩:=ul hd
 exact wpList_load_blk hgd ty x ho g off hx e cs vs d hb hu hr hi hv h
theorem yP {S:World → Prop} (vs:Array Value) (hS:∀ w,S w → Blk w g e cs)
  (hw:Region.wanted op (yielded ops a.tmps)=true:=by rfl) (ho:op.op=.load ty x:=by rfl) (hx:a.eval x=.pointer (some ⟨g,off,none⟩):=by rfl) (hi:(P.info? ty).map (·.size)=some vs.size:=by kernel_rfl) (hd:(P.underlying ty).any (·.isRow)=true:=by kernel_rfl) (hv:(cs.toList.drop off).take vs.size=vs.toList:=by rfl):YieldsIf P ops S op (.agg vs) a:=by
 obtain ⟨d,hu,hr⟩:=ul hd
 exact yieldsIf_load_blk hw ty x ho g off hx e cs vs d hS hu hr hi hv
theorem oG {K:Act → World → Prop} (vs:Array Value) (hb:Blk w g e cs) (h:∀ w',Blk w' g e vs → w.grownBy w' (some g) → K (a.put op.dst undef) w')
  (ho:op.op=.store ty x y:=by rfl) (hx:a.eval x=.pointer (some ⟨g,0,none⟩):=by rfl) (hy:a.eval y=.agg vs:=by rfl) (hn:cs.size=vs.size:=by rfl) (hi:(P.info? ty).map (·.size)=some vs.size:=by kernel_rfl) (h1:vs.all (·.oneCell')=true:=by simp [Value.oneCell']):op.wp P a w K Q :=
 oper_store_blk ty x y ho g 0 vs hx hy e cs vs hb (by omega) hi h1 (by
  have e1:cs.toList.length=vs.size:=by simpa using hn
  rw [List.take_zero,List.nil_append,Nat.zero_add,List.drop_of_length_le (by omega),List.append_nil]) h
theorem zB (w:World) (cs:Array Value) (e:TypeId):Below w.heap.size w (w.alloc (.cells cs e))∧Hid (Blk (w.alloc (.cells cs e)) w.heap.size e cs):=⟨(Below.refl _ _).alloc (Nat.le_refl _) _,Lib.hid (Blk.now _ _ _ _ rfl)⟩
end
section
variable {w:World} {g:Nat} {e:TypeId} {cs:Array Value}
theorem uc2 (h:Hid (Blk w g e cs)) (i0 i1:Nat):w.cell? ⟨g,i0,none⟩=cs[i0]?∧w.cell? ⟨g,i1,none⟩=cs[i1]?:=⟨h.out.cell i0,h.out.cell i1⟩
theorem uc3 (h:Hid (Blk w g e cs)) (i0 i1 i2:Nat):w.cell? ⟨g,i0,none⟩=cs[i0]?∧w.cell? ⟨g,i1,none⟩=cs[i1]?∧w.cell? ⟨g,i2,none⟩=cs[i2]?:=⟨h.out.cell i0,h.out.cell i1,h.out.cell i2⟩
theorem uc4 (h:Hid (Blk w g e cs)) (i0 i1 i2 i3:Nat):w.cell? ⟨g,i0,none⟩=cs[i0]?∧w.cell? ⟨g,i1,none⟩=cs[i1]?∧w.cell? ⟨g,i2,none⟩=cs[i2]?∧w.cell? ⟨g,i3,none⟩=cs[i3]?:=⟨h.out.cell i0,h.out.cell i1,h.out.cell i2,h.out.cell i3⟩
theorem uc9 (h:Hid (Blk w g e cs)) (i0 i1 i2 i3 i4 i5 i6 i7 i8:Nat):w.cell? ⟨g,i0,none⟩=cs[i0]?∧w.cell? ⟨g,i1,none⟩=cs[i1]?∧w.cell? ⟨g,i2,none⟩=cs[i2]?∧w.cell? ⟨g,i3,none⟩=cs[i3]?∧w.cell? ⟨g,i4,none⟩=cs[i4]?∧w.cell? ⟨g,i5,none⟩=cs[i5]?∧w.cell? ⟨g,i6,none⟩=cs[i6]?∧w.cell? ⟨g,i7,none⟩=cs[i7]?∧w.cell? ⟨g,i8,none⟩=cs[i8]?:=⟨h.out.cell i0,h.out.cell i1,h.out.cell i2,h.out.cell i3,h.out.cell i4,h.out.cell i5,h.out.cell i6,h.out.cell i7,h.out.cell i8⟩
end
section
variable {w w':World}
theorem uz2 {A0 A1 B0 B1:Prop} (hb:Below w.heap.size w w') (h0:Hid A0) (h1:Hid A1) [Kp w w' A0 B0] [Kp w w' A1 B1]:Hid B0∧Hid B1:=⟨zF hb h0,zF hb h1⟩
theorem uz3 {A0 A1 A2 B0 B1 B2:Prop} (hb:Below w.heap.size w w') (h0:Hid A0) (h1:Hid A1) (h2:Hid A2) [Kp w w' A0 B0] [Kp w w' A1 B1] [Kp w w' A2 B2]:Hid B0∧Hid B1∧Hid B2:=⟨zF hb h0,zF hb h1,zF hb h2⟩
theorem uz4 {A0 A1 A2 A3 B0 B1 B2 B3:Prop} (hb:Below w.heap.size w w') (h0:Hid A0) (h1:Hid A1) (h2:Hid A2) (h3:Hid A3) [Kp w w' A0 B0] [Kp w w' A1 B1] [Kp w w' A2 B2] [Kp w w' A3 B3]:Hid B0∧Hid B1∧Hid B2∧Hid B3:=⟨zF hb h0,zF hb h1,zF hb h2,zF hb h3⟩
theorem uz5 {A0 A1 A2 A3 A4 B0 B1 B2 B3 B4:Prop} (hb:Below w.heap.size w w') (h0:Hid A0) (h1:Hid A1) (h2:Hid A2) (h3:Hid A3) (h4:Hid A4) [Kp w w' A0 B0] [Kp w w' A1 B1] [Kp w w' A2 B2] [Kp w w' A3 B3] [Kp w w' A4 B4]:Hid B0∧Hid B1∧Hid B2∧Hid B3∧Hid B4:=⟨zF hb h0,zF hb h1,zF hb h2,zF hb h3,zF hb h4⟩
theorem uz6 {A0 A1 A2 A3 A4 A5 B0 B1 B2 B3 B4 B5:Prop} (hb:Below w.heap.size w w') (h0:Hid A0) (h1:Hid A1) (h2:Hid A2) (h3:Hid A3) (h4:Hid A4) (h5:Hid A5) [Kp w w' A0 B0] [Kp w w' A1 B1] [Kp w w' A2 B2] [Kp w w' A3 B3] [Kp w w' A4 B4] [Kp w w' A5 B5]:Hid B0∧Hid B1∧Hid B2∧Hid B3∧Hid B4∧Hid B5:=⟨zF hb h0,zF hb h1,zF hb h2,zF hb h3,zF hb h4,zF hb h5⟩
theorem uz7 {A0 A1 A2 A3 A4 A5 A6 B0 B1 B2 B3 B4 B5 B6:Prop} (hb:Below w.heap.size w w') (h0:Hid A0) (h1:Hid A1) (h2:Hid A2) (h3:Hid A3) (h4:Hid A4) (h5:Hid A5) (h6:Hid A6) [Kp w w' A0 B0] [Kp w w' A1 B1] [Kp w w' A2 B2] [Kp w w' A3 B3] [Kp w w' A4 B4] [Kp w w' A5 B5] [Kp w w' A6 B6]:Hid B0∧Hid B1∧Hid B2∧Hid B3∧Hid B4∧Hid B5∧Hid B6:=⟨zF hb h0,zF hb h1,zF hb h2,zF hb h3,zF hb h4,zF hb h5,zF hb h6⟩
end
theorem bk2 (w:World) (c1:Array Value) (t1:TypeId) (c2:Array Value) (t2:TypeId):∃ w1 w2,w.alloc (.cells c1 t1)=w1∧w1.alloc (.cells c2 t2)=w2∧w.heap.size < w1.heap.size∧w1.heap.size < w2.heap.size∧Hid (Blk w2 w.heap.size t1 c1)∧Hid (Blk w2 w1.heap.size t2 c2)∧Below w.heap.size w w2:=by
 obtain ⟨w1,e1,b1_1,k1⟩:=nB w c1 t1
 obtain ⟨w2,e2,b2_2,k2⟩:=nB w1 c2 t2
 have B1:=(zF k2 b1_1)
 have B2:=b2_2
 exact ⟨w1,w2,e1,e2,zL e1,zL e2,B1,B2,(ag k2 k1)⟩
theorem bk3 (w:World) (c1:Array Value) (t1:TypeId) (c2:Array Value) (t2:TypeId) (c3:Array Value) (t3:TypeId):∃ w1 w2 w3,w.alloc (.cells c1 t1)=w1∧w1.alloc (.cells c2 t2)=w2∧w2.alloc (.cells c3 t3)=w3∧w.heap.size < w1.heap.size∧w1.heap.size < w2.heap.size∧w2.heap.size < w3.heap.size∧Hid (Blk w3 w.heap.size t1 c1)∧Hid (Blk w3 w1.heap.size t2 c2)∧Hid (Blk w3 w2.heap.size t3 c3)∧Below w.heap.size w w3:=by
 obtain ⟨w1,e1,b1_1,k1⟩:=nB w c1 t1
 obtain ⟨w2,e2,b2_2,k2⟩:=nB w1 c2 t2
 obtain ⟨w3,e3,b3_3,k3⟩:=nB w2 c3 t3
 have B1:=(zF k3 (zF k2 b1_1))
 have B2:=(zF k3 b2_2)
 have B3:=b3_3
 exact ⟨w1,w2,w3,e1,e2,e3,zL e1,zL e2,zL e3,B1,B2,B3,(ag k3 (ag k2 k1))⟩
theorem bk4 (w:World) (c1:Array Value) (t1:TypeId) (c2:Array Value) (t2:TypeId) (c3:Array Value) (t3:TypeId) (c4:Array Value) (t4:TypeId):∃ w1 w2 w3 w4,w.alloc (.cells c1 t1)=w1∧w1.alloc (.cells c2 t2)=w2∧w2.alloc (.cells c3 t3)=w3∧w3.alloc (.cells c4 t4)=w4∧w.heap.size < w1.heap.size∧w1.heap.size < w2.heap.size∧w2.heap.size < w3.heap.size∧w3.heap.size < w4.heap.size∧Hid (Blk w4 w.heap.size t1 c1)∧Hid (Blk w4 w1.heap.size t2 c2)∧Hid (Blk w4 w2.heap.size t3 c3)∧Hid (Blk w4 w3.heap.size t4 c4)∧Below w.heap.size w w4:=by
 obtain ⟨w1,e1,b1_1,k1⟩:=nB w c1 t1
 obtain ⟨w2,e2,b2_2,k2⟩:=nB w1 c2 t2
 obtain ⟨w3,e3,b3_3,k3⟩:=nB w2 c3 t3
 obtain ⟨w4,e4,b4_4,k4⟩:=nB w3 c4 t4
 have B1:=(zF k4 (zF k3 (zF k2 b1_1)))
 have B2:=(zF k4 (zF k3 b2_2))
 have B3:=(zF k4 b3_3)
 have B4:=b4_4
 exact ⟨w1,w2,w3,w4,e1,e2,e3,e4,zL e1,zL e2,zL e3,zL e4,B1,B2,B3,B4,(ag k4 (ag k3 (ag k2 k1)))⟩
theorem bk5 (w:World) (c1:Array Value) (t1:TypeId) (c2:Array Value) (t2:TypeId) (c3:Array Value) (t3:TypeId) (c4:Array Value) (t4:TypeId) (c5:Array Value) (t5:TypeId):∃ w1 w2 w3 w4 w5,w.alloc (.cells c1 t1)=w1∧w1.alloc (.cells c2 t2)=w2∧w2.alloc (.cells c3 t3)=w3∧w3.alloc (.cells c4 t4)=w4∧w4.alloc (.cells c5 t5)=w5∧w.heap.size < w1.heap.size∧w1.heap.size < w2.heap.size∧w2.heap.size < w3.heap.size∧w3.heap.size < w4.heap.size∧w4.heap.size < w5.heap.size∧Hid (Blk w5 w.heap.size t1 c1)∧Hid (Blk w5 w1.heap.size t2 c2)∧Hid (Blk w5 w2.heap.size t3 c3)∧Hid (Blk w5 w3.heap.size t4 c4)∧Hid (Blk w5 w4.heap.size t5 c5)∧Below w.heap.size w w5:=by
 obtain ⟨w1,e1,b1_1,k1⟩:=nB w c1 t1
 obtain ⟨w2,e2,b2_2,k2⟩:=nB w1 c2 t2
 obtain ⟨w3,e3,b3_3,k3⟩:=nB w2 c3 t3
 obtain ⟨w4,e4,b4_4,k4⟩:=nB w3 c4 t4
 obtain ⟨w5,e5,b5_5,k5⟩:=nB w4 c5 t5
 have B1:=(zF k5 (zF k4 (zF k3 (zF k2 b1_1))))
 have B2:=(zF k5 (zF k4 (zF k3 b2_2)))
 have B3:=(zF k5 (zF k4 b3_3))
 have B4:=(zF k5 b4_4)
 have B5:=b5_5
 exact ⟨w1,w2,w3,w4,w5,e1,e2,e3,e4,e5,zL e1,zL e2,zL e3,zL e4,zL e5,B1,B2,B3,B4,B5,(ag k5 (ag k4 (ag k3 (ag k2 k1))))⟩
end Go.Proofs.YtmihnoagagbgaaaGreat
