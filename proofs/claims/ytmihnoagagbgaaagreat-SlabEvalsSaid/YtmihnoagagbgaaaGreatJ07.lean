/-
  Room for values that are there for a time (layer 28): the plain law; no program in sight.
  Room (layer 28): the plain law of the scan, of what is sound, of the peak; no program in sight.
  Room (layer 28): there is a place that fits, and the best one is such a place.
  slices.SortFunc's family at the elements of arena (layer 28): the shelf's contracts laid at this program.
-/
import Derived.Test.YtmihnoagagbgaaaGreatJ00
import Derived.Test.YtmihnoagagbgaaaGreatChecked
import Derived.Shelf.SlSortCmp.WholeK
set_option linter.unusedVariables false
set_option linter.unusedSimpArgs false
set_option maxRecDepth 100000
set_option maxHeartbeats 16000000
namespace Go.Proofs.YtmihnoagagbgaaaGreat.Ar
open Tryz
def mayOk (sz un:List Int):Prop:=sz.length=un.length∧sz.length≤1024∧∀ i,i < sz.length → 0≤sz.getD i 0∧sz.getD i 0≤1048576
instance (sz un:List Int):Decidable (mayOk sz un):=inferInstanceAs (Decidable (_∧_∧_))
def togI (u:Int) (k i:Nat):Bool:=decide ((i:Int)≤max u (k:Int))
def there (un:List Int) (i s:Nat):Bool:=s == i || (decide (i < s) && decide ((s:Int)≤un.getD i 0))
def over (a n b m:Int):Prop:=n ≠ 0∧m ≠ 0∧b < a+n∧a < b+m
instance (a n b m:Int):Decidable (over a n b m):=inferInstanceAs (Decidable (_∧_∧_∧_))
def meetTo (un:List Int) (i k:Nat):Nat → Bool
 | 0=>false
 | s+1=>meetTo un i k s || (there un i s && there un k s)
theorem meetTo_iff (un:List Int) (i k n:Nat):meetTo un i k n=true ↔ ∃ s,s < n∧there un i s=true∧there un k s=true:=by
 induction n with
 | zero=>simp [meetTo]
 | succ n ih =>
  rw [meetTo,Bool.or_eq_true,ih,Bool.and_eq_true]
  constructor
  ·rintro (⟨s,h1,h2⟩|h)
   ·exact ⟨s,by omega,h2⟩
   ·exact ⟨n,by omega,h⟩
  ·rintro ⟨s,h1,h2⟩
   by_cases e:s=n
   ·right;rw [← e];exact h2
   ·left;exact ⟨s,by omega,h2⟩
theorem there_iff {un:List Int} {i s:Nat}:there un i s=true ↔ s=i ∨ (i < s∧(s:Int)≤un.getD i 0):=by simp [there]
theorem meetTo_tog {un:List Int} {i k n:Nat} (h1:k < i) (h2:i < n):meetTo un i k n=togI (un.getD k 0) k i:=by
 rw [Bool.eq_iff_iff,meetTo_iff]
 simp only [there_iff,togI,decide_eq_true_eq]
 constructor
 ·rintro ⟨s,h3,h4,h5⟩
  omega
 ·intro h
  exact ⟨i,h2,.inl rfl,.inr ⟨h1,by omega⟩⟩
def meet (sz un:List Int) (i:Nat) (p:Int) (k:Nat) (q:Int):Bool:=decide (over p (sz.getD i 0) q (sz.getD k 0)) && meetTo un i k sz.length
def fitsTo (sz un at_:List Int) (i:Nat) (p:Int) (k:Nat):Prop:=∀ j,j < k → meet sz un i p j (at_.getD j 0)=false
instance (sz un at_:List Int) (i:Nat) (p:Int) (k:Nat):Decidable (fitsTo sz un at_ i p k):=inferInstanceAs (Decidable (∀ j,j < k → _))
def fits (sz un at_:List Int) (i:Nat) (p:Int):Bool:=decide (fitsTo sz un at_ i p i)
def bestTo (sz un at_:List Int) (i:Nat):Nat → Int
 | 0=>if fits sz un at_ i 0=true then 0 else -1
 | k+1=>if (bestTo sz un at_ i k < 0 ∨ at_.getD k 0+sz.getD k 0 < bestTo sz un at_ i k)∧fits sz un at_ i (at_.getD k 0+sz.getD k 0)=true then at_.getD k 0+sz.getD k 0 else bestTo sz un at_ i k
def best (sz un at_:List Int) (i:Nat):Int:=bestTo sz un at_ i i
def cand (sz at_:List Int) (k:Nat) (c:Int):Prop:=c=0 ∨ ∃ j,j < k∧c=at_.getD j 0+sz.getD j 0
theorem bestTo_spec (sz un at_:List Int) (i k:Nat) (h0:∀ j,j < k → 0≤at_.getD j 0+sz.getD j 0) :
  (bestTo sz un at_ i k=-1∧∀ c,cand sz at_ k c → fits sz un at_ i c=false) ∨
   (0≤bestTo sz un at_ i k∧fits sz un at_ i (bestTo sz un at_ i k)=true∧cand sz at_ k (bestTo sz un at_ i k)∧∀ c,cand sz at_ k c → fits sz un at_ i c=true → bestTo sz un at_ i k≤c):=by
 induction k with
 | zero =>
  unfold bestTo
  by_cases h:fits sz un at_ i 0=true
  ·rw [if_pos h]
   refine .inr ⟨Int.le_refl _,h,.inl rfl,fun c hc _=>?_⟩
   rcases hc with rfl|⟨j,hj,_⟩
   ·exact Int.le_refl _
   ·omega
  ·rw [if_neg h]
   refine .inl ⟨rfl,fun c hc=>?_⟩
   rcases hc with rfl|⟨j,hj,_⟩
   ·simpa using h
   ·omega
 | succ k ih =>
  have hk:=h0 k oM
  have ih:=ih (fun j hj=>h0 j oM)
  have cs:∀ c,cand sz at_ (k+1) c → cand sz at_ k c ∨ c=at_.getD k 0+sz.getD k 0:=by
   rintro c (rfl|⟨j,hj,rfl⟩)
   ·exact .inl (.inl rfl)
   ·by_cases e:j=k
    ·rw [e];exact .inr rfl
    ·exact .inl (.inr ⟨j,by omega,rfl⟩)
  have cm:∀ c,cand sz at_ k c → cand sz at_ (k+1) c:=by
   rintro c (rfl|⟨j,hj,rfl⟩)
   ·exact .inl rfl
   ·exact .inr ⟨j,by omega,rfl⟩
  unfold bestTo
  generalize bestTo sz un at_ i k=b at *
  by_cases h:(b < 0 ∨ at_.getD k 0+sz.getD k 0 < b)∧fits sz un at_ i (at_.getD k 0+sz.getD k 0)=true
  ·rw [if_pos h]
   refine .inr ⟨hk,h.2,.inr ⟨k,by omega,rfl⟩,fun c hc hf=>?_⟩
   rcases cs c hc with hc|rfl
   ·rcases ih with ⟨_,ih⟩|⟨i1,i2,i3,i4⟩
    ·rw [ih c hc] at hf;cases hf
    ·have:=i4 c hc hf
     omega
   ·exact Int.le_refl _
  ·rw [if_neg h]
   rcases ih with ⟨i1,ih⟩|⟨i1,i2,i3,i4⟩
   ·refine .inl ⟨i1,fun c hc=>?_⟩
    rcases cs c hc with hc|rfl
    ·exact ih c hc
    ·rw [Bool.eq_false_iff];intro hf
     exact h ⟨.inl oM,hf⟩
   ·refine .inr ⟨i1,i2,cm _ i3,fun c hc hf=>?_⟩
    rcases cs c hc with hc|rfl
    ·exact i4 c hc hf
    ·have:¬ (at_.getD k 0+sz.getD k 0 < b):=fun hlt=>h ⟨.inr hlt,hf⟩
     omega
/-! ### the program's row of taken places -/
def takenTo (sz un at_:List Int) (i:Nat):Nat → List (Int × Int)
 | 0=>[]
 | k+1=>takenTo sz un at_ i k ++ if togI (un.getD k 0) k i=true∧0 < sz.getD k 0 then [(at_.getD k 0,at_.getD k 0+sz.getD k 0)] else []
theorem takenTo_mem {sz un at_:List Int} {i k:Nat} {x:Int × Int}:x ∈ takenTo sz un at_ i k ↔ ∃ j,j < k∧togI (un.getD j 0) j i=true∧0 < sz.getD j 0∧x=(at_.getD j 0,at_.getD j 0+sz.getD j 0):=by
 induction k with
 | zero=>simp [takenTo]
 | succ k ih =>
  rw [takenTo,List.mem_append,ih]
  constructor
  ·rintro (⟨j,h1,h2⟩|h)
   ·exact ⟨j,by omega,h2⟩
   ·split at h
    ·rename_i hc
     simp only [List.mem_singleton] at h
     exact ⟨k,by omega,hc.1,hc.2,h⟩
    ·cases h
  ·rintro ⟨j,h1,h2,h3,h4⟩
   by_cases e:j=k
   ·right
    subst e
    rw [if_pos ⟨h2,h3⟩,h4];simp
   ·left;exact ⟨j,by omega,h2,h3,h4⟩
def freeAt (l:List (Int × Int)) (n p:Int):Prop:=∀ x ∈ l,x.2≤p ∨ p+n≤x.1
structure LeastFree (l:List (Int × Int)) (n r:Int):Prop where
 nn:0≤r
 ok:freeAt l n r
 least:∀ p,0≤p → p < r → ¬ freeAt l n p
 from_:r=0 ∨ ∃ x ∈ l,r=x.2
theorem fits_free {sz un at_:List Int} {i:Nat} {p:Int} (hi:i < sz.length) (hn:0 < sz.getD i 0) (hs:∀ j,j < i → 0≤sz.getD j 0):fits sz un at_ i p=true ↔ freeAt (takenTo sz un at_ i i) (sz.getD i 0) p:=by
 unfold fits freeAt
 rw [decide_eq_true_eq]
 unfold fitsTo
 constructor
 ·intro h x hx
  obtain ⟨j,h1,h2,h3,rfl⟩:=takenTo_mem.1 hx
  have:=h j h1
  unfold meet at this
  rw [meetTo_tog h1 hi,h2,Bool.and_true,decide_eq_false_iff_not] at this
  unfold over at this
  simp only
  omega
 ·intro h j hj
  unfold meet
  rw [meetTo_tog hj hi]
  cases ht:togI (un.getD j 0) j i with
  | false=>simp
  | true =>
   rw [Bool.and_true,decide_eq_false_iff_not]
   rintro ⟨o1,o2,o3,o4⟩
   have:=h _ (takenTo_mem.2 ⟨j,hj,ht,by have:=hs j hj;omega,rfl⟩)
   simp only at this
   omega
theorem least_best {sz un at_:List Int} {i:Nat} {r:Int} (hi:i < sz.length) (hn:0 < sz.getD i 0) (hs:∀ j,j < i → 0≤sz.getD j 0) (ha:∀ j,j < i → 0≤at_.getD j 0) (h:LeastFree (takenTo sz un at_ i i) (sz.getD i 0) r):best sz un at_ i=r:=by
 have hc:cand sz at_ i r:=by
  rcases h.from_ with h|⟨x,hx,h⟩
  ·exact .inl h
  ·obtain ⟨j,h1,h2,h3,rfl⟩:=takenTo_mem.1 hx
   exact .inr ⟨j,h1,h⟩
 have hf:fits sz un at_ i r=true:=(fits_free hi hn hs).2 h.ok
 rcases bestTo_spec sz un at_ i i (fun j hj=>by have:=hs j hj;have:=ha j hj;omega) with ⟨_,h1⟩|⟨h1,h2,h3,h4⟩
 ·rw [h1 r hc] at hf;cases hf
 ·have b1:=h4 r hc hf
  unfold best
  rcases Int.lt_or_eq_of_le b1 with hlt|heq
  ·exact absurd ((fits_free hi hn hs).1 h2) (h.least _ h1 hlt)
  ·exact heq
theorem best_zero {sz un at_:List Int} {i:Nat} (hn:sz.getD i 0=0) (hs:∀ j,j < i → 0≤sz.getD j 0) (ha:∀ j,j < i → 0≤at_.getD j 0):best sz un at_ i=0:=by
 have hf:∀ p,fits sz un at_ i p=true:=by
  intro p
  unfold fits
  rw [decide_eq_true_eq]
  intro j hj
  unfold meet over
  rw [hn];simp
 rcases bestTo_spec sz un at_ i i (fun j hj=>by have:=hs j hj;have:=ha j hj;omega) with ⟨_,h1⟩|⟨h1,h2,h3,h4⟩
 ·have:=h1 0 (.inl rfl)
  rw [hf] at this;cases this
 ·have:=h4 0 (.inl rfl) (hf 0)
  unfold best;omega
/-! ### all places -/
def atTo (sz un:List Int):Nat → List Int
 | 0=>[]
 | i+1=>atTo sz un i ++ [best sz un (atTo sz un i) i]
def roomTo (sz un:List Int):Nat → Int
 | 0=>0
 | i+1=>max (roomTo sz un i) (best sz un (atTo sz un i) i+sz.getD i 0)
theorem atTo_len (sz un:List Int) (i:Nat):(atTo sz un i).length=i:=by
 induction i with
 | zero=>rfl
 | succ i ih=>rw [atTo,List.length_append,ih];rfl
theorem getD_append (l:List Int) (x:Int) (k:Nat):(l ++ [x]).getD k 0=if k < l.length then l.getD k 0 else if k=l.length then x else 0:=by
 simp only [gD]
 by_cases h:k < l.length
 ·rw [if_pos h,List.getElem?_append_left h]
 ·rw [if_neg h]
  by_cases e:k=l.length
  ·rw [if_pos e,e];simp
  ·rw [if_neg e,List.getElem?_eq_none (by simp;omega)];rfl
def sumTo (sz:List Int):Nat → Int
 | 0=>0
 | i+1=>sumTo sz i+sz.getD i 0
theorem sumTo_bd {sz:List Int} {n:Nat} (h:∀ i,i < n → 0≤sz.getD i 0∧sz.getD i 0≤1048576) (k:Nat) (hk:k≤n):0≤sumTo sz k∧sumTo sz k≤1048576*(k:Int):=by
 induction k with
 | zero=>exact ⟨Int.le_refl _,by simp [sumTo]⟩
 | succ k ih =>
  have:=ih oM
  have:=h k oM
  unfold sumTo
  omega
theorem sumTo_mono {sz : List Int} {n : Nat} (h : ∀ i, i < n → 0 ≤ sz.getD i 0 ∧ sz.getD i 0 ≤ 1048576) {j k : Nat} (hjk : j ≤ k) (hk : k ≤ n) : sumTo sz j ≤ sumTo sz k := by
  induction k with
  | zero => obtain rfl : j = 0 := by omega
            exact Int.le_refl _
  | succ k ih =>
    by_cases e : j = k + 1
    · rw [e]; exact Int.le_refl _
    · have := ih oM oM
      have := h k oM
      show sumTo sz j ≤ sumTo sz k + sz.getD k 0
      omega
end Go.Proofs.YtmihnoagagbgaaaGreat.Ar
namespace Go.Proofs.YtmihnoagagbgaaaGreat.Ar
open Tryz
/-! ### the least free place, found in order -/
def scanTo (d:List (Int × Int)) (n:Int):Nat → Int
 | 0=>0
 | k+1=>if scanTo d n k < (d.getD k (0,0)).2∧(d.getD k (0,0)).1 < scanTo d n k+n then (d.getD k (0,0)).2 else scanTo d n k
structure ScanOk (d:List (Int × Int)) (n:Int) (k:Nat):Prop where
 nn:0≤scanTo d n k
 ok:∀ j,j < k → (d.getD j (0,0)).2≤scanTo d n k ∨ scanTo d n k+n≤(d.getD j (0,0)).1
 least:∀ p,0≤p → p < scanTo d n k → ∃ j,j < k∧p < (d.getD j (0,0)).2∧(d.getD j (0,0)).1 < p+n
 from_:scanTo d n k=0 ∨ ∃ j,j < k∧scanTo d n k=(d.getD j (0,0)).2
theorem scan_ok {d:List (Int × Int)} {n:Int} (hs:∀ i j,i < j → j < d.length → (d.getD i (0,0)).1≤(d.getD j (0,0)).1) (k:Nat) (hk:k≤d.length):ScanOk d n k:=by
 induction k with
 | zero=>exact ⟨Int.le_refl _,fun j hj=>by omega,fun p h1 h2=>by have:scanTo d n 0=0:=rfl;omega,.inl rfl⟩
 | succ k ih =>
  obtain ⟨h1,h2,h3,h4⟩:=ih oM
  have e:scanTo d n (k+1)=if scanTo d n k < (d.getD k (0,0)).2∧(d.getD k (0,0)).1 < scanTo d n k+n then (d.getD k (0,0)).2 else scanTo d n k:=rfl
  have hs':∀ j,j < k → (d.getD j (0,0)).1≤(d.getD k (0,0)).1:=fun j hj=>hs j k hj oM
  obtain ⟨⟨f,t⟩,hx⟩:∃ z,d.getD k (0,0)=z:=⟨_,rfl⟩
  rw [hx] at e
  simp only at e hs'
  generalize scanTo d n k=a at *
  by_cases c:a < t∧f < a+n
  ·rw [if_pos c] at e
   refine ⟨by omega,fun j hj=>?_,fun p p1 p2=>?_,.inr ⟨k,by omega,by rw [hx,e]⟩⟩
   ·rw [e]
    by_cases ej:j=k
    ·rw [ej,hx];left;exact Int.le_refl _
    ·rcases h2 j oM with h|h
     ·left;omega
     ·have:=hs' j oM;rw [hx] at this;simp only at this;omega
   ·rw [e] at p2
    by_cases pa:p < a
    ·obtain ⟨j,q1,q2⟩:=h3 p p1 pa
     exact ⟨j,by omega,q2⟩
    ·exact ⟨k,by omega,by rw [hx];simp only;omega⟩
  ·rw [if_neg c] at e
   refine ⟨by rw [e];exact h1,fun j hj=>?_,fun p p1 p2=>?_,?_⟩
   ·rw [e]
    by_cases ej:j=k
    ·rw [ej,hx];simp only;omega
    ·exact h2 j oM
   ·rw [e] at p2
    obtain ⟨j,q1,q2⟩:=h3 p p1 p2
    exact ⟨j,by omega,q2⟩
   ·rw [e]
    rcases h4 with h4|⟨j,q1,q2⟩
    ·exact .inl h4
    ·exact .inr ⟨j,by omega,q2⟩
theorem scan_least {l d:List (Int × Int)} {n:Int} (hp:d.Perm l) (hs:∀ i j,i < j → j < d.length → (d.getD i (0,0)).1≤(d.getD j (0,0)).1):LeastFree l n (scanTo d n d.length):=by
 obtain ⟨h1,h2,h3,h4⟩:=scan_ok (n:=n) hs d.length (lR _)
 have hm:∀ j,j < d.length → d.getD j (0,0) ∈ l:=fun j hj=>by
  rw [gD,List.getElem?_eq_getElem hj]
  exact hp.mem_iff.1 (List.getElem_mem _)
 have hm2:∀ x ∈ l,∃ j,j < d.length∧d.getD j (0,0)=x:=fun x hx=>by
  obtain ⟨j,hj,e⟩:=List.getElem_of_mem (hp.mem_iff.2 hx)
  exact ⟨j,hj,by rw [gD,List.getElem?_eq_getElem hj];exact e⟩
 refine ⟨h1,fun x hx=>?_,fun p p1 p2 hf=>?_,?_⟩
 ·obtain ⟨j,hj,rfl⟩:=hm2 x hx
  exact h2 j hj
 ·obtain ⟨j,hj,q1,q2⟩:=h3 p p1 p2
  have:=hf _ (hm j hj)
  omega
 ·rcases h4 with h4|⟨j,hj,e⟩
  ·exact .inl h4
  ·exact .inr ⟨_,hm j hj,e⟩
/-! ### what is sound -/
def pairOk (sz un at_:List Int) (k i:Nat):Prop:=at_.getD k 0+sz.getD k 0≤at_.getD i 0 ∨ at_.getD i 0+sz.getD i 0≤at_.getD k 0 ∨ sz.getD i 0=0 ∨ sz.getD k 0=0 ∨ togI (un.getD k 0) k i=false
instance (sz un at_:List Int) (k i:Nat):Decidable (pairOk sz un at_ k i):=inferInstanceAs (Decidable (_ ∨ _ ∨ _ ∨ _ ∨ _))
def rowOkTo (sz un at_:List Int) (i k:Nat):Prop:=0≤at_.getD i 0∧at_.getD i 0≤1099511627776∧∀ j,j < k → pairOk sz un at_ j i
instance (sz un at_:List Int) (i k:Nat):Decidable (rowOkTo sz un at_ i k):=inferInstanceAs (Decidable (_∧_∧_))
def rowsOk (sz un at_:List Int) (n:Nat):Prop:=∀ i,i < n → rowOkTo sz un at_ i i
instance (sz un at_:List Int) (n:Nat):Decidable (rowsOk sz un at_ n):=inferInstanceAs (Decidable (∀ i,i < n → _))
def soundOk (sz un at_:List Int):Prop:=mayOk sz un∧at_.length=sz.length∧rowsOk sz un at_ at_.length
instance (sz un at_:List Int):Decidable (soundOk sz un at_):=inferInstanceAs (Decidable (_∧_∧_))
theorem meet_pair {sz un at_:List Int} {i k:Nat} (h1:k < i) (h2:i < sz.length) (hs:∀ j,j < sz.length → 0≤sz.getD j 0):meet sz un i (at_.getD i 0) k (at_.getD k 0)=false ↔ pairOk sz un at_ k i:=by
 unfold meet pairOk
 rw [meetTo_tog h1 h2]
 have a1:=hs i h2
 have a2:=hs k oM
 cases togI (un.getD k 0) k i with
 | false=>simp
 | true =>
  rw [Bool.and_true,decide_eq_false_iff_not]
  unfold over
  simp only [Bool.true_eq_false,or_false]
  omega
/-! ### the peak -/
/-! ### the places' own bounds -/
structure Good (sz un:List Int) (i:Nat) (at_:List Int):Prop where
 len:at_.length=i
 bd:∀ k,k < i → 0≤at_.getD k 0∧at_.getD k 0+sz.getD k 0≤sumTo sz (k+1)
theorem Good.nil (sz un:List Int):Good sz un 0 []:=⟨rfl,fun k hk=>by omega⟩
theorem Good.push {sz un at_:List Int} {i n:Nat} {r:Int} (h:Good sz un i at_) (hi:i < n) (hs:∀ j,j < n → 0≤sz.getD j 0∧sz.getD j 0≤1048576) (h0:0≤r) (hc:cand sz at_ i r):Good sz un (i+1) (at_ ++ [r]):=by
 refine ⟨by rw [List.length_append,h.len];rfl,fun k hk=>?_⟩
 rw [getD_append,h.len]
 by_cases e:k < i
 ·rw [if_pos e];exact h.bd k e
 ·rw [if_neg e,if_pos oM]
  obtain rfl:k=i:=oM
  refine ⟨h0,?_⟩
  show r+sz.getD k 0≤sumTo sz k+sz.getD k 0
  have hb:=sumTo_bd hs k oM
  rcases hc with rfl|⟨j,hj,rfl⟩
  ·omega
  ·have b1:=(h.bd j hj).2
   have b2:=sumTo_mono hs (j:=j+1) (k:=k) oM oM
   omega
theorem Good.small {sz un at_:List Int} {i n:Nat} (h:Good sz un i at_) (hi:i≤n) (hn:n≤1024) (hs:∀ j,j < n → 0≤sz.getD j 0∧sz.getD j 0≤1048576) (k:Nat) (hk:k < i):0≤at_.getD k 0∧at_.getD k 0+sz.getD k 0≤1073741824:=by
 have h1:=h.bd k hk
 have h2:=sumTo_bd hs (k+1) oM
 omega
end Go.Proofs.YtmihnoagagbgaaaGreat.Ar
namespace Go.Proofs.YtmihnoagagbgaaaGreat
open Go.Proofs.YtmihnoagagbgaaaGreat.Ar Tryz
set_option maxRecDepth 100000
set_option maxHeartbeats 16000000
theorem sX (sz at_:List Int) (k:Nat) (h0:∀ j,j < k → 0≤at_.getD j 0+sz.getD j 0):∃ c,0≤c∧cand sz at_ k c∧∀ j,j < k → at_.getD j 0+sz.getD j 0≤c:=by
 induction k with
 | zero=>exact ⟨0,Int.le_refl _,.inl rfl,fun j hj=>by omega⟩
 | succ k ih =>
  obtain ⟨c,h1,h2,h3⟩:=ih (fun j hj=>h0 j oM)
  have hk:=h0 k oM
  by_cases h:at_.getD k 0+sz.getD k 0≤c
  ·refine ⟨c,h1,?_,fun j hj=>?_⟩
   ·rcases h2 with h2|⟨j,hj,h2⟩
    ·exact .inl h2
    ·exact .inr ⟨j,by omega,h2⟩
   ·by_cases e:j=k
    ·rw [e];exact h
    ·exact h3 j oM
  ·refine ⟨_,hk,.inr ⟨k,by omega,rfl⟩,fun j hj=>?_⟩
   by_cases e:j=k
   ·rw [e];exact Int.le_refl _
   ·have:=h3 j oM;omega
theorem oI {sz un at_:List Int} {i:Nat} (h0:∀ j,j < i → 0≤at_.getD j 0+sz.getD j 0):0≤best sz un at_ i∧cand sz at_ i (best sz un at_ i)∧fits sz un at_ i (best sz un at_ i)=true:=by
 obtain ⟨c,h1,h2,h3⟩:=sX sz at_ i h0
 have hf:fits sz un at_ i c=true:=by
  unfold fits
  rw [decide_eq_true_eq]
  intro j hj
  have:=h3 j hj
  unfold meet
  rw [Bool.and_eq_false_iff]
  left
  rw [decide_eq_false_iff_not]
  unfold over
  omega
 rcases bestTo_spec sz un at_ i i h0 with ⟨_,h⟩|⟨q1,q2,q3,_⟩
 ·rw [h c h2] at hf;cases hf
 ·exact ⟨q1,q3,q2⟩
end Go.Proofs.YtmihnoagagbgaaaGreat
namespace Go.Proofs
open Tryz
open Go.Shelf
def Tryz.lSrt_ren:Go.Shelf.Ren:=⟨fun|6=>74|14=>111|15=>112|20=>137|21=>138|22=>139|23=>140|24=>141|25=>142|26=>143|27=>144|28=>145|29=>146|46=>161|47=>162|48=>163|49=>164|50=>165|57=>180|n=>n,fun|3=>3|4=>4|5=>5|9=>9|22=>89|24=>92|25=>122|39=>155|45=>177|46=>178|50=>117|53=>184|55=>149|66=>205|70=>209|76=>232|77=>138|n=>n,fun|n=>n⟩
theorem Tryz.lSrt:Go.Proofs.SlLaysF0.n6 prog Tryz.lSrt_ren:={
 mixed:=by kernel_rfl
 f6:=⟨Tryz.f74.name,by decide,func74.trans (congrArg some (by kernel_rfl))⟩
 f14:=⟨Tryz.f111.name,by decide,func111.trans (congrArg some (by kernel_rfl))⟩
 f15:=func112.trans (congrArg some (by kernel_rfl))
 f20:=⟨Tryz.f137.name,by decide,func137.trans (congrArg some (by kernel_rfl))⟩
 f21:=⟨Tryz.f138.name,by decide,func138.trans (congrArg some (by kernel_rfl))⟩
 f22:=⟨Tryz.f139.name,by decide,func139.trans (congrArg some (by kernel_rfl))⟩
 f23:=⟨Tryz.f140.name,by decide,func140.trans (congrArg some (by kernel_rfl))⟩
 f24:=⟨Tryz.f141.name,by decide,func141.trans (congrArg some (by kernel_rfl))⟩
 f25:=⟨Tryz.f142.name,by decide,func142.trans (congrArg some (by kernel_rfl))⟩
 f26:=⟨Tryz.f143.name,by decide,func143.trans (congrArg some (by kernel_rfl))⟩
 f27:=⟨Tryz.f144.name,by decide,func144.trans (congrArg some (by kernel_rfl))⟩
 f28:=func145.trans (congrArg some (by kernel_rfl))
 f29:=func146.trans (congrArg some (by kernel_rfl))
 f46:=⟨Tryz.f161.name,by decide,func161.trans (congrArg some (by kernel_rfl))⟩
 f47:=func162.trans (congrArg some (by kernel_rfl))
 f48:=func163.trans (congrArg some (by kernel_rfl))
 f49:=⟨Tryz.f164.name,by decide,func164.trans (congrArg some (by kernel_rfl))⟩
 f50:=⟨Tryz.f165.name,by decide,func165.trans (congrArg some (by kernel_rfl))⟩
 f57:=⟨Tryz.f180.name,by decide,func180.trans (congrArg some (by kernel_rfl))⟩
 t0:=underlying0
 a0:=Tryz.isAgg0
 z0:=Tryz.sizeOf0
 v0:=Tryz.zeroValue0
 t3:=underlying3
 a3:=Tryz.isAgg3
 z3:=Tryz.sizeOf3
 v3:=Tryz.zeroValue3
 t4:=underlying4
 a4:=Tryz.isAgg4
 z4:=Tryz.sizeOf4
 v4:=Tryz.zeroValue4
 t5:=underlying5
 a5:=Tryz.isAgg5
 z5:=Tryz.sizeOf5
 v5:=Tryz.zeroValue5
 t9:=underlying9
 a9:=Tryz.isAgg9
 z9:=Tryz.sizeOf9
 v9:=Tryz.zeroValue9
 t22:=underlying89
 a22:=Tryz.isAgg89
 z22:=Tryz.sizeOf89
 v22:=Tryz.zeroValue89
 t25:=underlying122
 a25:=Tryz.isAgg122
 z25:=Tryz.sizeOf122
 v25:=Tryz.zeroValue122
 t39:=underlying155
 a39:=Tryz.isAgg155
 z39:=Tryz.sizeOf155
 v39:=Tryz.zeroValue155
 t45:=underlying177
 a45:=Tryz.isAgg177
 z45:=Tryz.sizeOf177
 v45:=Tryz.zeroValue177
 t46:=underlying178
 a46:=Tryz.isAgg178
 z46:=Tryz.sizeOf178
 v46:=Tryz.zeroValue178
 t50:=underlying117
 a50:=Tryz.isAgg117
 z50:=Tryz.sizeOf117
 v50:=Tryz.zeroValue117
 t53:=underlying184
 a53:=Tryz.isAgg184
 z53:=Tryz.sizeOf184
 v53:=Tryz.zeroValue184
 t55:=underlying149
 a55:=Tryz.isAgg149
 z55:=Tryz.sizeOf149
 v55:=Tryz.zeroValue149
 t66:=underlying205
 a66:=Tryz.isAgg205
 z66:=Tryz.sizeOf205
 v66:=Tryz.zeroValue205
 t70:=underlying209
 a70:=Tryz.isAgg209
 z70:=Tryz.sizeOf209
 v70:=Tryz.zeroValue209
 t76:=underlying232
 a76:=Tryz.isAgg232
 z76:=Tryz.sizeOf232
 v76:=Tryz.zeroValue232
 t77:=underlying138
 a77:=Tryz.isAgg138
 z77:=Tryz.sizeOf138
 v77:=Tryz.zeroValue138 }
end Go.Proofs
