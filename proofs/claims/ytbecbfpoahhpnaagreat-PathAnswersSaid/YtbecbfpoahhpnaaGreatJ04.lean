/- A row of one's own seen wider; what adds memory keeps what was. -/
import Derived.Test.YtbecbfpoahhpnaaGreatJ00
set_option linter.unusedVariables false
set_option linter.unusedSimpArgs false
set_option maxRecDepth 100000
set_option maxHeartbeats 16000000
namespace Go.Proofs.YtbecbfpoahhpnaaGreat
open Go.RowKit Tryz
theorem bm {a b:World} {r:Option Nat} (h:Below a.heap.size a b):a.grownBy b r:=⟨h.os,h.tape,h.output,h.size,fun i hi _=>h.block i hi⟩
theorem Own.more {α:Type} {t:Ty α} {w:World} {S S':Nat → Prop} {base n:Nat} {E:TypeId} {v:Value} {l:List α} (h:Own t w S base E v n l) (o:∀ b,S b → S' b):Own t w S' base E v n l:=by
 obtain ⟨vs,e,a⟩:=h.out;exact ⟨vs,e,a.more o⟩
end Go.Proofs.YtbecbfpoahhpnaaGreat
namespace Go.Proofs.YtbecbfpoahhpnaaGreat.Ar
open Tryz
def mayOk (sz un:List Int):Prop:=sz.length=un.length∧sz.length≤1024∧∀ i,i < sz.length → 0≤sz.getD i 0∧sz.getD i 0≤1048576
instance (sz un:List Int):Decidable (mayOk sz un):=inferInstanceAs (Decidable (_∧_∧_))
def togI (u:Int) (k i:Nat):Bool:=decide ((i:Int)≤max u (k:Int))
def there (un:List Int) (i s:Nat):Bool:=s == i || (decide (i < s) && decide ((s:Int)≤un.getD i 0))
def over (a n b m:Int):Prop:=n ≠ 0∧m ≠ 0∧b < a+n∧a < b+m
instance (a n b m:Int):Decidable (over a n b m):=inferInstanceAs (Decidable (_∧_∧_∧_))
def meetTo (un:List Int) (i k:Nat):Nat → Bool
 | 0=>false
 | s+1=>meetTo un i k s || (there un i s && there un k s)
theorem meetTo_iff (un:List Int) (i k n:Nat):meetTo un i k n=true ↔ ∃ s,s < n∧there un i s=true∧there un k s=true:=by
 induction n with
 | zero=>simp [meetTo]
 | succ n ih =>
  rw [meetTo,Bool.or_eq_true,ih,Bool.and_eq_true];constructor
  ·rintro (⟨s,a,t⟩|h)
   ·exact ⟨s,by omega,t⟩
   ·exact ⟨n,by omega,h⟩
  ·rintro ⟨s,a,t⟩;by_cases e:s=n
   ·right;rw [← e];exact t
   ·left;exact ⟨s,by omega,t⟩
theorem there_iff {un:List Int} {i s:Nat}:there un i s=true ↔ s=i ∨ (i < s∧(s:Int)≤un.getD i 0):=by simp [there]
theorem meetTo_tog {un:List Int} {i k n:Nat} (e:k < i) (t:i < n):meetTo un i k n=togI (un.getD k 0) k i:=by
 rw [Bool.eq_iff_iff,meetTo_iff];simp only [there_iff,togI,decide_eq_true_eq];constructor
 ·rintro ⟨s,a,o,r⟩;omega
 ·intro h;exact ⟨i,t,.inl rfl,.inr ⟨e,by omega⟩⟩
def meet (sz un:List Int) (i:Nat) (p:Int) (k:Nat) (q:Int):Bool:=decide (over p (sz.getD i 0) q (sz.getD k 0)) && meetTo un i k sz.length
def fitsTo (sz un at_:List Int) (i:Nat) (p:Int) (k:Nat):Prop:=∀ j,j < k → meet sz un i p j (at_.getD j 0)=false
instance (sz un at_:List Int) (i:Nat) (p:Int) (k:Nat):Decidable (fitsTo sz un at_ i p k):=inferInstanceAs (Decidable (∀ j,j < k → _))
def fits (sz un at_:List Int) (i:Nat) (p:Int):Bool:=decide (fitsTo sz un at_ i p i)
def bestTo (sz un at_:List Int) (i:Nat):Nat → Int
 | 0=>if fits sz un at_ i 0=true then 0 else -1
 | k+1=>if (bestTo sz un at_ i k < 0 ∨ at_.getD k 0+sz.getD k 0 < bestTo sz un at_ i k)∧fits sz un at_ i (at_.getD k 0+sz.getD k 0)=true then at_.getD k 0+sz.getD k 0 else bestTo sz un at_ i k
def best (sz un at_:List Int) (i:Nat):Int:=bestTo sz un at_ i i
def cand (sz at_:List Int) (k:Nat) (c:Int):Prop:=c=0 ∨ ∃ j,j < k∧c=at_.getD j 0+sz.getD j 0
theorem bestTo_spec (sz un at_:List Int) (i k:Nat) (d:∀ j,j < k → 0≤at_.getD j 0+sz.getD j 0) :
  (bestTo sz un at_ i k=-1∧∀ c,cand sz at_ k c → fits sz un at_ i c=false) ∨
   (0≤bestTo sz un at_ i k∧fits sz un at_ i (bestTo sz un at_ i k)=true∧cand sz at_ k (bestTo sz un at_ i k)∧∀ c,cand sz at_ k c → fits sz un at_ i c=true → bestTo sz un at_ i k≤c):=by
 induction k with
 | zero =>
  unfold bestTo;by_cases h:fits sz un at_ i 0=true
  ·rw [if_pos h];refine .inr ⟨Int.le_refl _,h,.inl rfl,fun c t _=>?_⟩;rcases t with rfl|⟨j,n,_⟩
   ·exact Int.le_refl _
   ·omega
  ·rw [if_neg h];refine .inl ⟨rfl,fun c t=>?_⟩;rcases t with rfl|⟨j,n,_⟩
   ·simpa using h
   ·omega
 | succ k o =>
  have f:=d k oM;have o:=o (fun j n=>d j oM);have cs:∀ c,cand sz at_ (k+1) c → cand sz at_ k c ∨ c=at_.getD k 0+sz.getD k 0:=by
   rintro c (rfl|⟨j,n,rfl⟩)
   ·exact .inl (.inl rfl)
   ·by_cases e:j=k
    ·rw [e];exact .inr rfl
    ·exact .inl (.inr ⟨j,by omega,rfl⟩)
  have m:∀ c,cand sz at_ k c → cand sz at_ (k+1) c:=by
   rintro c (rfl|⟨j,n,rfl⟩)
   ·exact .inl rfl
   ·exact .inr ⟨j,by omega,rfl⟩
  unfold bestTo;generalize bestTo sz un at_ i k=b at *;by_cases h:(b < 0 ∨ at_.getD k 0+sz.getD k 0 < b)∧fits sz un at_ i (at_.getD k 0+sz.getD k 0)=true
  ·rw [if_pos h];refine .inr ⟨f,h.2,.inr ⟨k,by omega,rfl⟩,fun c t a=>?_⟩;rcases cs c t with t|rfl
   ·rcases o with ⟨_,o⟩|⟨s,l,i3,i4⟩
    ·rw [o c t] at a;cases a
    ·have:=i4 c t a;omega
   ·exact Int.le_refl _
  ·rw [if_neg h];rcases o with ⟨s,o⟩|⟨s,l,i3,i4⟩
   ·refine .inl ⟨s,fun c t=>?_⟩;rcases cs c t with t|rfl
    ·exact o c t
    ·rw [Bool.eq_false_iff];intro a;exact h ⟨.inl oM,a⟩
   ·refine .inr ⟨s,l,m _ i3,fun c t a=>?_⟩;rcases cs c t with t|rfl
    ·exact i4 c t a
    ·have:¬ (at_.getD k 0+sz.getD k 0 < b):=fun r=>h ⟨.inr r,a⟩;omega
/-! ### the program's row of taken places -/
def takenTo (sz un at_:List Int) (i:Nat):Nat → List (Int × Int)
 | 0=>[]
 | k+1=>takenTo sz un at_ i k ++ if togI (un.getD k 0) k i=true∧0 < sz.getD k 0 then [(at_.getD k 0,at_.getD k 0+sz.getD k 0)] else []
theorem takenTo_mem {sz un at_:List Int} {i k:Nat} {x:Int × Int}:x ∈ takenTo sz un at_ i k ↔ ∃ j,j < k∧togI (un.getD j 0) j i=true∧0 < sz.getD j 0∧x=(at_.getD j 0,at_.getD j 0+sz.getD j 0):=by
 induction k with
 | zero=>simp [takenTo]
 | succ k ih =>
  rw [takenTo,List.mem_append,ih];constructor
  ·rintro (⟨j,s,t⟩|h)
   ·exact ⟨j,by omega,t⟩
   ·split at h
    ·rename_i n;simp only [List.mem_singleton] at h;exact ⟨k,by omega,n.1,n.2,h⟩
    ·cases h
  ·rintro ⟨j,s,t,a,o⟩;by_cases e:j=k
   ·right;subst e;rw [if_pos ⟨t,a⟩,o];simp
   ·left;exact ⟨j,by omega,t,a,o⟩
def freeAt (l:List (Int × Int)) (n p:Int):Prop:=∀ x ∈ l,x.2≤p ∨ p+n≤x.1
structure LeastFree (l:List (Int × Int)) (n r:Int):Prop where
 nn:0≤r
 ok:freeAt l n r
 least:∀ p,0≤p → p < r → ¬ freeAt l n p
 from_:r=0 ∨ ∃ x ∈ l,r=x.2
theorem fits_free {sz un at_:List Int} {i:Nat} {p:Int} (hi:i < sz.length) (d:0 < sz.getD i 0) (o:∀ j,j < i → 0≤sz.getD j 0):fits sz un at_ i p=true ↔ freeAt (takenTo sz un at_ i i) (sz.getD i 0) p:=by
 unfold fits freeAt;rw [decide_eq_true_eq];unfold fitsTo;constructor
 ·intro h x s;obtain ⟨j,t,a,r,rfl⟩:=takenTo_mem.1 s;have:=h j t;unfold meet at this;rw [meetTo_tog t hi,a,Bool.and_true,decide_eq_false_iff_not] at this;unfold over at this;simp only;omega
 ·intro h j e;unfold meet;rw [meetTo_tog e hi];cases n:togI (un.getD j 0) j i with
  | false=>simp
  | true =>
   rw [Bool.and_true,decide_eq_false_iff_not];rintro ⟨l,c,m,f⟩;have:=h _ (takenTo_mem.2 ⟨j,e,n,by have:=o j e;omega,rfl⟩);simp only at this;omega
theorem least_best {sz un at_:List Int} {i:Nat} {r:Int} (hi:i < sz.length) (c:0 < sz.getD i 0) (n:∀ j,j < i → 0≤sz.getD j 0) (y:∀ j,j < i → 0≤at_.getD j 0) (h:LeastFree (takenTo sz un at_ i i) (sz.getD i 0) r):best sz un at_ i=r:=by
 have d:cand sz at_ i r:=by
  rcases h.from_ with h|⟨x,p,h⟩
  ·exact .inl h
  ·obtain ⟨j,e,s,f,rfl⟩:=takenTo_mem.1 p;exact .inr ⟨j,e,h⟩
 have a:fits sz un at_ i r=true:=(fits_free hi c n).2 h.ok;rcases bestTo_spec sz un at_ i i (fun j l=>by have:=n j l;have:=y j l;omega) with ⟨_,e⟩|⟨e,s,f,w⟩
 ·rw [e r d] at a;cases a
 ·have m:=w r d a;unfold best;rcases Int.lt_or_eq_of_le m with o|t
  ·exact absurd ((fits_free hi c n).1 s) (h.least _ e o)
  ·exact t
theorem best_zero {sz un at_:List Int} {i:Nat} (s:sz.getD i 0=0) (h:∀ j,j < i → 0≤sz.getD j 0) (n:∀ j,j < i → 0≤at_.getD j 0):best sz un at_ i=0:=by
 have a:∀ p,fits sz un at_ i p=true:=by
  intro p;unfold fits;rw [decide_eq_true_eq];intro j e;unfold meet over;rw [s];simp
 rcases bestTo_spec sz un at_ i i (fun j e=>by have:=h j e;have:=n j e;omega) with ⟨_,t⟩|⟨t,r,d,o⟩
 ·have:=t 0 (.inl rfl);rw [a] at this;cases this
 ·have:=o 0 (.inl rfl) (a 0);unfold best;omega
/-! ### all places -/
def atTo (sz un:List Int):Nat → List Int
 | 0=>[]
 | i+1=>atTo sz un i ++ [best sz un (atTo sz un i) i]
def roomTo (sz un:List Int):Nat → Int
 | 0=>0
 | i+1=>max (roomTo sz un i) (best sz un (atTo sz un i) i+sz.getD i 0)
theorem atTo_len (sz un:List Int) (i:Nat):(atTo sz un i).length=i:=by
 induction i with
 | zero=>rfl
 | succ i ih=>rw [atTo,List.length_append,ih];rfl
theorem getD_append (l:List Int) (x:Int) (k:Nat):(l ++ [x]).getD k 0=if k < l.length then l.getD k 0 else if k=l.length then x else 0:=by
 simp only [gD];by_cases h:k < l.length
 ·rw [if_pos h,List.getElem?_append_left h]
 ·rw [if_neg h];by_cases e:k=l.length
  ·rw [if_pos e,e];simp
  ·rw [if_neg e,List.getElem?_eq_none (by simp;omega)];rfl
def sumTo (sz:List Int):Nat → Int
 | 0=>0
 | i+1=>sumTo sz i+sz.getD i 0
theorem sumTo_bd {sz:List Int} {n:Nat} (h:∀ i,i < n → 0≤sz.getD i 0∧sz.getD i 0≤1048576) (k:Nat) (e:k≤n):0≤sumTo sz k∧sumTo sz k≤1048576*(k:Int):=by
 induction k with
 | zero=>exact ⟨Int.le_refl _,by simp [sumTo]⟩
 | succ k ih =>
  have:=ih oM;have:=h k oM;unfold sumTo;omega
theorem sumTo_mono {sz : List Int} {n : Nat} (h : ∀ i, i < n → 0 ≤ sz.getD i 0 ∧ sz.getD i 0 ≤ 1048576) {j k : Nat} (hjk : j ≤ k) (hk : k ≤ n) : sumTo sz j ≤ sumTo sz k := by
  induction k with
  | zero => obtain rfl : j = 0 := by omega
            exact Int.le_refl _
  | succ k ih =>
    by_cases e : j = k + 1
    · rw [e]; exact Int.le_refl _
    · have := ih oM oM
      have := h k oM
      show sumTo sz j ≤ sumTo sz k + sz.getD k 0
      omega
end Go.Proofs.YtbecbfpoahhpnaaGreat.Ar
namespace Go.Proofs.YtbecbfpoahhpnaaGreat.Ar
open Tryz
/-! ### the least free place, found in order -/
def scanTo (d:List (Int × Int)) (n:Int):Nat → Int
 | 0=>0
 | k+1=>if scanTo d n k < (d.getD k (0,0)).2∧(d.getD k (0,0)).1 < scanTo d n k+n then (d.getD k (0,0)).2 else scanTo d n k
structure ScanOk (d:List (Int × Int)) (n:Int) (k:Nat):Prop where
 nn:0≤scanTo d n k
 ok:∀ j,j < k → (d.getD j (0,0)).2≤scanTo d n k ∨ scanTo d n k+n≤(d.getD j (0,0)).1
 least:∀ p,0≤p → p < scanTo d n k → ∃ j,j < k∧p < (d.getD j (0,0)).2∧(d.getD j (0,0)).1 < p+n
 from_:scanTo d n k=0 ∨ ∃ j,j < k∧scanTo d n k=(d.getD j (0,0)).2
theorem scan_ok {d:List (Int × Int)} {n:Int} (A:∀ i j,i < j → j < d.length → (d.getD i (0,0)).1≤(d.getD j (0,0)).1) (k:Nat) (C:k≤d.length):ScanOk d n k:=by
 induction k with
 | zero=>exact ⟨Int.le_refl _,fun j l=>by omega,fun p g y=>by have:scanTo d n 0=0:=rfl;omega,.inl rfl⟩
 | succ k ih =>
  obtain ⟨g,y,q,v⟩:=ih oM;have e:scanTo d n (k+1)=if scanTo d n k < (d.getD k (0,0)).2∧(d.getD k (0,0)).1 < scanTo d n k+n then (d.getD k (0,0)).2 else scanTo d n k:=rfl
  have s:∀ j,j < k → (d.getD j (0,0)).1≤(d.getD k (0,0)).1:=fun j l=>A j k l oM;obtain ⟨⟨f,t⟩,o⟩:∃ z,d.getD k (0,0)=z:=⟨_,rfl⟩;rw [o] at e;simp only at e s;generalize scanTo d n k=a at *;by_cases c:a < t∧f < a+n
  ·rw [if_pos c] at e;refine ⟨by omega,fun j l=>?_,fun p b m=>?_,.inr ⟨k,by omega,by rw [o,e]⟩⟩
   ·rw [e];by_cases w:j=k
    ·rw [w,o];left;exact Int.le_refl _
    ·rcases y j oM with h|h
     ·left;omega
     ·have:=s j oM;rw [o] at this;simp only at this;omega
   ·rw [e] at m;by_cases B:p < a
    ·obtain ⟨j,x,r⟩:=q p b B;exact ⟨j,by omega,r⟩
    ·exact ⟨k,by omega,by rw [o];simp only;omega⟩
  ·rw [if_neg c] at e;refine ⟨by rw [e];exact g,fun j l=>?_,fun p b m=>?_,?_⟩
   ·rw [e];by_cases w:j=k
    ·rw [w,o];simp only;omega
    ·exact y j oM
   ·rw [e] at m;obtain ⟨j,x,r⟩:=q p b m;exact ⟨j,by omega,r⟩
   ·rw [e];rcases v with v|⟨j,x,r⟩
    ·exact .inl v
    ·exact .inr ⟨j,by omega,r⟩
theorem scan_least {l d:List (Int × Int)} {n:Int} (r:d.Perm l) (y:∀ i j,i < j → j < d.length → (d.getD i (0,0)).1≤(d.getD j (0,0)).1):LeastFree l n (scanTo d n d.length):=by
 obtain ⟨c,m,f,a⟩:=scan_ok (n:=n) y d.length (lR _);have h:∀ j,j < d.length → d.getD j (0,0) ∈ l:=fun j t=>by
  rw [gD,List.getElem?_eq_getElem t];exact r.mem_iff.1 (List.getElem_mem _)
 have o:∀ x ∈ l,∃ j,j < d.length∧d.getD j (0,0)=x:=fun x s=>by
  obtain ⟨j,t,e⟩:=List.getElem_of_mem (r.mem_iff.2 s);exact ⟨j,t,by rw [gD,List.getElem?_eq_getElem t];exact e⟩
 refine ⟨c,fun x s=>?_,fun p v b w=>?_,?_⟩
 ·obtain ⟨j,t,rfl⟩:=o x s;exact m j t
 ·obtain ⟨j,t,g,k⟩:=f p v b;have:=w _ (h j t);omega
 ·rcases a with a|⟨j,t,e⟩
  ·exact .inl a
  ·exact .inr ⟨_,h j t,e⟩
/-! ### what is sound -/
def pairOk (sz un at_:List Int) (k i:Nat):Prop:=at_.getD k 0+sz.getD k 0≤at_.getD i 0 ∨ at_.getD i 0+sz.getD i 0≤at_.getD k 0 ∨ sz.getD i 0=0 ∨ sz.getD k 0=0 ∨ togI (un.getD k 0) k i=false
instance (sz un at_:List Int) (k i:Nat):Decidable (pairOk sz un at_ k i):=inferInstanceAs (Decidable (_ ∨ _ ∨ _ ∨ _ ∨ _))
def rowOkTo (sz un at_:List Int) (i k:Nat):Prop:=0≤at_.getD i 0∧at_.getD i 0≤1099511627776∧∀ j,j < k → pairOk sz un at_ j i
instance (sz un at_:List Int) (i k:Nat):Decidable (rowOkTo sz un at_ i k):=inferInstanceAs (Decidable (_∧_∧_))
def rowsOk (sz un at_:List Int) (n:Nat):Prop:=∀ i,i < n → rowOkTo sz un at_ i i
instance (sz un at_:List Int) (n:Nat):Decidable (rowsOk sz un at_ n):=inferInstanceAs (Decidable (∀ i,i < n → _))
def soundOk (sz un at_:List Int):Prop:=mayOk sz un∧at_.length=sz.length∧rowsOk sz un at_ at_.length
instance (sz un at_:List Int):Decidable (soundOk sz un at_):=inferInstanceAs (Decidable (_∧_∧_))
theorem meet_pair {sz un at_:List Int} {i k:Nat} (a:k < i) (e:i < sz.length) (t:∀ j,j < sz.length → 0≤sz.getD j 0):meet sz un i (at_.getD i 0) k (at_.getD k 0)=false ↔ pairOk sz un at_ k i:=by
 unfold meet pairOk;rw [meetTo_tog a e];have o:=t i e;have n:=t k oM;cases togI (un.getD k 0) k i with
 | false=>simp
 | true =>
  rw [Bool.and_true,decide_eq_false_iff_not];unfold over;simp only [Bool.true_eq_false,or_false];omega
/-! ### the peak -/
/-! ### the places' own bounds -/
structure Good (sz un:List Int) (i:Nat) (at_:List Int):Prop where
 len:at_.length=i
 bd:∀ k,k < i → 0≤at_.getD k 0∧at_.getD k 0+sz.getD k 0≤sumTo sz (k+1)
theorem Good.nil (sz un:List Int):Good sz un 0 []:=⟨rfl,fun k e=>by omega⟩
theorem Good.push {sz un at_:List Int} {i n:Nat} {r:Int} (h:Good sz un i at_) (hi:i < n) (t:∀ j,j < n → 0≤sz.getD j 0∧sz.getD j 0≤1048576) (a:0≤r) (o:cand sz at_ i r):Good sz un (i+1) (at_ ++ [r]):=by
 refine ⟨by rw [List.length_append,h.len];rfl,fun k m=>?_⟩;rw [getD_append,h.len];by_cases e:k < i
 ·rw [if_pos e];exact h.bd k e
 ·rw [if_neg e,if_pos oM];obtain rfl:k=i:=oM;refine ⟨a,?_⟩;show r+sz.getD k 0≤sumTo sz k+sz.getD k 0;have c:=sumTo_bd t k oM;rcases o with rfl|⟨j,s,rfl⟩
  ·omega
  ·have d:=(h.bd j s).2;have l:=sumTo_mono t (j:=j+1) (k:=k) oM oM;omega
theorem Good.small {sz un at_:List Int} {i n:Nat} (h:Good sz un i at_) (hi:i≤n) (s:n≤1024) (t:∀ j,j < n → 0≤sz.getD j 0∧sz.getD j 0≤1048576) (k:Nat) (e:k < i):0≤at_.getD k 0∧at_.getD k 0+sz.getD k 0≤1073741824:=by
 have a:=h.bd k e;have o:=sumTo_bd t (k+1) oM;omega
end Go.Proofs.YtbecbfpoahhpnaaGreat.Ar
namespace Go.Proofs.YtbecbfpoahhpnaaGreat
open Go.RowKit Go.ChangeShapes Go.WideShapes Tryz
def dR (x w:List Int) (z:Int):Nat → Int
 | 0=>0
 | k+1=>dR x w z k+w.getD k 0*(x.getD k 0 - z)
def bE (x w b:List Int) (z:Int):List Int :=
 if x.length=0 ∨ b.length=0 ∨ w.length ≠ x.length*b.length then [] else (List.range b.length).map fun o=>wrap32 (b.getD o 0+dR x (w.drop (o*x.length)) z x.length)
theorem ij (a b:Int):wrap32 (wrap32 a+b)=wrap32 (a+b):=by unfold wrap32;omega
theorem iL (a b:Int):wrap32 (a+wrap32 b)=wrap32 (a+b):=by unfold wrap32;omega
theorem eT (a:Int):-2147483648≤wrap32 a∧wrap32 a≤2147483647:=by unfold wrap32;omega
theorem Am (px y:Addr) (A q:QA) (n d j t:Nat) (x a:List Int) (z:Int) (w:World) (f:xA w A n d x) (E:xA w q j t a)
  (c:w.cell? px=some (.slice A n d)) (m:w.cell? y=some (.int .i8 z)) (F:InK .i8 z) (S:n≤j) :
  Calls prog 161 #[.slice q j t,.pointer (some px),.pointer (some y)] w fun e w'=>e=.returned (.int .i32 (wrap32 (dR x a z n)))∧Below w w w':=by
 have R:n≤9223372036854775807:=lT f.cap_le f.max_le;rw [bj] at F;obtain ⟨Z,z2⟩:=F;obtain ⟨H,K⟩:=zh2 f E;have p:=World.block_lt_of_cell? w px c;have v:=World.block_lt_of_cell? w y m;clear f E;go_in;go_wp2;go_loopw [5,10] (fun s i wr=>∃ k:Nat,k≤n∧i=.int .i64 k∧s=.int .i32 (wrap32 (dR x a z k))∧Below w w wr) (fun _ i _=>n - (intOf i).toNat)
 case atStart=>exact ⟨0,zl _,rfl,by simp [dR,wrap32],qB _ _⟩
 case round =>
  obtain ⟨k,Q,rfl,rfl,l⟩:=hrel;have B:wr.cell? px=some (.slice A n d):=(l.cell p).trans c;have C:wr.cell? y=some (.int .i8 z):=(l.cell v).trans m;by_cases g:k < n
  ·obtain ⟨b,off,rfl,_,_,O,G⟩:=(H.o.below l (fun _ h=>h)).int_at k g;obtain ⟨N,J,rfl,_,_,P,I⟩:=(K.o.below l (fun _ h=>h)).int_at k oM;have D:dR x a z (k+1)=dR x a z k+a.getD k 0*(x.getD k 0 - z):=rfl;generalize dR x a z k=r at *;generalize a.getD k 0=V at *;generalize x.getD k 0=Y at *;rw [bj] at G I;have M:=eT r;obtain ⟨W,X⟩:=G;obtain ⟨T,U⟩:=I;have L:=zH D;clear D;go_wp2_with fail;go_quiet (fail);go_wp2;exact ⟨⟨k+1,by omega,by go_num,by rw [L.o,ij,iL],aI l _⟩,by simp [intOf];omega⟩
  ·obtain rfl:k=n:=oM;go_wp2;go_ret;exact ⟨rfl,l⟩
theorem wY (a b:Int) (o:-128≤a) (i:a≤127) (n:-255≤b) (s:b≤255):-32640≤a*b∧a*b≤32640:=by
 have k1:(128+a)*(255 - b) ≥ 0:=Int.mul_nonneg oM oM;have k2:(128+a)*(255+b) ≥ 0:=Int.mul_nonneg oM oM;have e:(128 - a)*(255 - b) ≥ 0:=Int.mul_nonneg oM oM;have t:(128 - a)*(255+b) ≥ 0:=Int.mul_nonneg oM oM;simp only [Int.add_mul,Int.sub_mul,Int.mul_sub,Int.mul_add] at k1 k2 e t;omega
theorem vA (x w:List Int) (z:Int) (n k:Nat) (h:k≤n):dR x (w.take n) z k=dR x w z k:=by
 induction k with
 | zero=>rfl
 | succ k ih =>
  rw [dR,dR,ih oM,gD,List.getElem?_take,if_pos oM,← gD]
theorem iM:EI prog 42 21 (.int .i32 0) 1 4:=⟨underlying42,by kernel_rfl,rfl,by decide⟩
def du {α:Type} (z:α) (f:Nat → α) (n k:Nat):List α:=(List.range k).map f ++ List.replicate (n - k) z
theorem fD {α:Type} (z:α) (f:Nat → α) (n:Nat):du z f n 0=List.replicate n z:=by simp [du]
theorem fZ {α:Type} (z:α) (f:Nat → α) (n:Nat):du z f n n=(List.range n).map f:=by simp [du]
theorem fv {α:Type} (z:α) (f:Nat → α) (n k:Nat) (h:k < n):(du z f n k).set k (f k)=du z f n (k+1):=by
 unfold du;rw [List.set_append_right _ _ sM];obtain ⟨m,rfl⟩:∃ m,n=k+m+1:=⟨n - k - 1,by omega⟩;rw [show k+m+1 - k=m+1 by omega,show k+m+1 - (k+1)=m by omega,List.range_succ];simp [List.replicate_succ]
theorem Bk (A A' A'' : QA) (n cap n' cap' n'' cap'' : Nat) (x wl b : List Int) (z : Int) (w : World) (hx : xA w A n cap x) (hw : xA w A' n' cap' wl)
    (hb : xB w A'' n'' cap'' b) (hbad : n = 0 ∨ n'' = 0 ∨ n' ≠ n * n'') (h1 : n ≤ 1073741824) (h2 : n' ≤ 1073741824) (h3 : n'' ≤ 1073741824) :
    Calls prog 89 #[.slice A n cap, .slice A' n' cap', .slice A'' n'' cap'', .int .i8 z] w fun e w' =>
      e = .returned (.slice none 0 0) ∧ w = w' := by
  by_cases c1 : n = 0
  · have d1 : ((n : Int) == 0) = true := by simp [c1]
    clear c1 hbad
    go_enter func89, ntmps89
    go_wp2
    go_ret
    exact ⟨rfl, rfl⟩
  have d1 : ((n : Int) == 0) = false := by simp [c1]
  have q1 := IntWalk.tdiv_le (n' : Int) (n : Int) oM oM
  by_cases c2 : n'' = 0
  · have d2 : ((n'' : Int) == 0) = true := by simp [c2]
    have c1 : 1 ≤ n := by omega
    clear c2 hbad
    go_enter func89, ntmps89
    go_wp2
    go_ret
    exact ⟨rfl, rfl⟩
  have d2 : ((n'' : Int) == 0) = false := by simp [c2]
  have n1 : 1 ≤ n := by omega
  by_cases c3 : n' % n = 0
  · have d3 : (((n' : Int) % (n : Int)) != 0) = false := by
      have : ((n' : Int) % (n : Int)) = ((n' % n : Nat) : Int) := by simp
      rw [this, c3]; rfl
    have d4 : (((n' : Int) / (n : Int)) != (n'' : Int)) = true := by
      rw [bne_iff_ne]
      intro h
      have h' : n' / n = n'' := by have : ((n' : Int) / (n : Int)) = ((n' / n : Nat) : Int) := by simp
                                   rw [this] at h; omega
      have := Nat.div_add_mod n' n
      rw [h', c3] at this
      omega
    clear c1 c2 c3 hbad
    go_enter func89, ntmps89
    go_wp2
    go_ret
    exact ⟨rfl, rfl⟩
  · have d3 : (((n' : Int) % (n : Int)) != 0) = true := by
      have : ((n' : Int) % (n : Int)) = ((n' % n : Nat) : Int) := by simp
      rw [this, bne_iff_ne]; omega
    clear c1 c2 c3 hbad
    go_enter func89, ntmps89
    go_wp2
    go_ret
    exact ⟨rfl, rfl⟩
theorem yN (A Z C:QA) (n y r d a l:Nat) (x O b:List Int) (z:Int) (w:World) (hx:xA w A n y x) (T:xA w Z r d O)
  (f:xB w C a l b) (hz:InK .i8 z) (c1:1≤n) (c2:1≤a) (P:r=n*a) (h1:n≤1073741824) (h2:r≤1073741824) (h3:a≤1073741824) :
  Calls prog 89 #[.slice A n y,.slice Z r d,.slice C a l,.int .i8 z] w fun e w' =>
   ∃ v,e=.returned v∧Own (ab .i32) w' (fun _=>False) w.heap.size 21 v a ((List.range a).map fun o=>wrap32 (b.getD o 0+dR x (O.drop (o*n)) z n))∧Below w w w':=by
 have d1:((n:Int) == 0)=false:=sO;have d2:((a:Int) == 0)=false:=sO;have d3:(((r:Int) % (n:Int)) != 0)=false:=by
  have:((r:Int) % (n:Int))=((r % n:Nat):Int):=by simp
  rw [this,P];simp
 have d4:(((r:Int) / (n:Int)) != (a:Int))=false:=by
  have:((r:Int) / (n:Int))=((r / n:Nat):Int):=by simp
  rw [this,P,Nat.mul_div_cancel_left _ oM];simp
 have q1:=IntWalk.tdiv_le (r:Int) (n:Int) oM oM;obtain ⟨HX,HW,HB,HC,HZ⟩:=zh5 hx T f P hz;have h4:=T.cap_le;have h5:=T.max_le;clear hx T f P hz;go_in
 go_wp2_with (first|(go_at_call 122;go_in)|(at_make;refine wpList_make (t:=ab .i32) (S:=fun _=>False) (base:=w.heap.size) rfl _ _ rfl iM .i64 .i64 _ _ a rfl rfl rfl rfl ?_ ?_ ?_ 0 ⟨rfl,by decide⟩ (fun _ h=>h.elim) ?_;rotate_right;intro U s Q))
 rotate_left
 ·omega
 ·unfold maxLen;omega
 ·simp;omega
 have F:Below w w U:=(((qB _ _).alloc (lR _) _).alloc sM _).grown Q (by simp;omega) sM;have H:U.cell? ⟨w.heap.size,0,none⟩=some (.slice A n y):=(World.cell?_of_block (Q.block w.heap.size (by simp;omega) sM)).trans (by simp [World.cell?_alloc_past]);have J:U.cell? ⟨w.heap.size+1,0,none⟩=some (.int .i8 z):=(World.cell?_of_block (Q.block (w.heap.size+1) sM sM)).trans (by simp [go_sem]);have N:w.heap.size+2 < U.heap.size:=by have:=(s.lt _ rfl).2;simpa using this
 clear Q;have HO:=zH s;clear s;go_loopw [47] (fun i wr=>∃ k:Nat,k≤a∧i=.int .i64 k∧Below w w wr∧wr.cell? ⟨w.heap.size,0,none⟩=some (.slice A n y)∧wr.cell? ⟨w.heap.size+1,0,none⟩=some (.int .i8 z)∧w.heap.size+2 < wr.heap.size ∧
   Own (ab .i32) wr (fun _=>False) w.heap.size 21 (.slice (some ⟨w.heap.size+1+1,0,none⟩) a a) a (du 0 (fun o=>wrap32 (b.getD o 0+dR x (O.drop (o*n)) z n)) a k)) (fun i _=>a - (intOf i).toNat)
 case atStart=>exact ⟨0,zl _,rfl,F,H,J,N,by rw [fD];simpa using HO.o⟩
 case round =>
  obtain ⟨k,hk,rfl,f,j,q,ad,s⟩:=hrel;clear H J N F;have L:∀ c,blo w c → blo wr c:=fun c h=>Nat.lt_of_lt_of_le h f.size;by_cases g:k < a
  ·obtain ⟨bb,an,rfl,_,_,cb,ib⟩:=(HB.o.below f (fun _ h=>h)).int_at k g;obtain ⟨p,R⟩:∃ p:Nat,k*n=p:=⟨_,rfl⟩;have X:(k:Int)*(n:Int)=(p:Int):=by rw [← R];simp
   have ah:((k:Int)+1)*(n:Int)=(p:Int)+n:=by rw [Int.add_mul,X];simp
   have Y:p+n≤r:=by
    rw [HC.o,← R,← Nat.succ_mul,Nat.mul_comm n];exact Nat.mul_le_mul_right _ g
   obtain ⟨b',al,W,_,_,_⟩:=HW.o.int_at 0 oM;subst W;obtain ⟨E,HP,D⟩:=zh3 s R L;clear s R L;generalize G:b.getD k 0=bo at *;have V:=zH G;clear G;go_wp2_with fail;have M:=HW.o.sub p n p (d - p) (by simp [ab]) Y oM oM;refine qM (Am _ _ _ _ _ _ _ _ _ _ _ _ ((HX.o.below f (fun _ h=>h)).more D.o) ((M.below f (fun _ h=>h)).more D.o) j q HZ.o (lR _)) fun w2 m=>?_;have B:=E.o.below m (lR _) (fun _ h=>h.elim);obtain ⟨x0,u0,_,_,c5,c6,c7,_⟩:=B.cell rfl k g;have H2:=zH B;clear B;have I:=gT m j (by show w.heap.size < _;omega);have K:=gT m q (by show w.heap.size+1 < _;omega);go_wp2_with fail;have ac:=m.size;obtain ⟨o3,g3⟩:=H2.o.set1 rfl k (.int .i32 (wrap32 (bo+wrap32 (dR x (List.take n (List.drop p O)) z n)))) (wrap32 (bo+wrap32 (dR x (List.take n (List.drop p O)) z n))) ⟨rfl,by rw [cE];exact eT _⟩ (fun _ h=>h.elim);refine ⟨⟨k+1,by omega,by go_num,(f.trans (m.mono f.size)).setCell (by simp;omega) _,?_,?_,by simp;omega,?_⟩,by simp [intOf];omega⟩
   ·rw [World.cell?_setCell_other _ _ _ _ sM];exact I
   ·rw [World.cell?_setCell_other _ _ _ _ sM];exact K
   ·rw [← fv 0 _ a k g];simp only [V.o,HP.o];rw [vA _ _ _ _ _ (lR _),iL] at o3 ⊢;exact o3
  ·obtain rfl:k=a:=oM;go_wp2;go_ret;exact ⟨_,rfl,by rw [fZ] at s;exact s,f⟩
theorem tf (x t b:List Int) (z:Int) (n a e:Nat) (i:x.length=n) (s:t.length=a) (h:b.length=e) :
  bE x t b z=if n=0 ∨ e=0 ∨ a ≠ n*e then [] else (List.range e).map fun o=>wrap32 (b.getD o 0+dR x (t.drop (o*n)) z n):=by
 subst i s h;rfl
theorem tL (A p s:QA) (n r d i t a:Nat) (x y b:List Int) (z:Int) (w:World) (f:xA w A n r x) (m:xA w p d i y)
  (l:xB w s t a b) (B:InK .i8 z) (g:n≤1073741824) (k:d≤1073741824) (j:t≤1073741824) :
  Calls prog 89 #[.slice A n r,.slice p d i,.slice s t a,.int .i8 z] w (RetSl (ab .i32) w (bE x y b z)):=by
 rw [tf x y b z n d t f.n_eq m.n_eq l.n_eq];by_cases o:n=0 ∨ t=0 ∨ d ≠ n*t
 ·rw [if_pos o];refine (Bk _ _ _ _ _ _ _ _ _ _ _ _ _ _ f m l o g k j).mono ?_;rintro e w' ⟨rfl,rfl⟩;exact ⟨none,0,0,rfl,Sl.nil _ _ _,qB _ _⟩
 ·rw [if_neg o];refine (yN _ _ _ _ _ _ _ _ _ _ _ _ _ _ f m l B oM oM oM g k j).mono ?_;rintro e w' ⟨v,rfl,q,c⟩;exact q.ret dM c (fun _ h=>h.elim)
end Go.Proofs.YtbecbfpoahhpnaaGreat
