/-
  Sums of whole numbers over ranges: one range of ranges, two ranges in either order.
  Whole numbers below 2^53 as 64-bit floats: what bits stand for them; sums, differences, products that stay below are exact; complex numbers of such parts.
  Four numbers as four sums of them, each turned by quarters (layer 14), on the bits: what the bits stand for; what goes back is what two rows make, round by round.
  An array is handed back (parted off from CrcC).
  Four numbers as sums of them (layer 14): the walks of four.turned and four.sums.
  Four numbers as sums of them (layer 14): the walks of four.Of, four.Times, four.Plus, four.Back.
  Four numbers as sums of them (layer 14): the walk of four.Back; wheel.turned, wheel.both (layer 15).
  'append(l, r...)' where l is the call's own and r a slice of whole numbers.
  A scope in which the run may jump ahead to one label, once.
-/
import Derived.Test.YtmihnoagagbgaaaGreatJ00
import Derived.Test.YtmihnoagagbgaaaGreatChecked
import Derived.Laws.AppendOwnNone
set_option linter.unusedVariables false
set_option linter.unusedSimpArgs false
set_option maxRecDepth 100000
set_option maxHeartbeats 16000000
namespace Go.Proofs.YtmihnoagagbgaaaGreat
open Tryz
def az:Nat → (Nat → Int) → Int
 | 0,_=>0
 | n+1,f=>az n f+f n
theorem dg {n:Nat} {f g:Nat → Int} (h:∀ i,i < n → f i=g i):az n f=az n g:=by
 induction n with
 | zero=>rfl
 | succ n ih=>rw [az,az,ih (fun i hi=>h i oM),h n oM]
theorem sU (n:Nat) (f g:Nat → Int):az n (fun i=>f i+g i)=az n f+az n g:=by
 induction n with
 | zero=>rfl
 | succ n ih=>simp only [az,ih];omega
theorem rN (n:Nat):az n (fun _=>0)=0:=by
 induction n with
 | zero=>rfl
 | succ n ih=>simp only [az,ih];rfl
theorem iU (a b:Nat) (f:Nat → Int):az (a+b) f=az a f+az b (fun i=>f (a+i)):=by
 induction b with
 | zero=>simp [az]
 | succ b ih=>rw [← Nat.add_assoc,az,ih,az];omega
theorem jb (a b:Nat) (f:Nat → Int):az (a*b) f=az a (fun i=>az b (fun j=>f (i*b+j))):=by
 induction a with
 | zero=>simp [az]
 | succ a ih=>rw [Nat.add_mul,Nat.one_mul,iU,ih,az]
theorem rM (a b:Nat) (g:Nat → Nat → Int):az a (fun i=>az b (g i))=az b (fun j=>az a (fun i=>g i j)):=by
 induction a with
 | zero=>simp only [az];rw [rN]
 | succ a ih=>simp only [az];rw [ih,sU]
theorem qd (f:Nat → Int):az 3 f=f 0+f 1+f 2:=by simp [az]
theorem jT {n:Nat} {f:Nat → Int} {b:Nat} (h:∀ i,i < n → (f i).natAbs≤b):(az n f).natAbs≤n*b:=by
 induction n with
 | zero=>simp [az]
 | succ n ih =>
  have h1:=ih (fun i hi=>h i oM)
  have h2:=h n oM
  rw [az,Nat.succ_mul]
  omega
end Go.Proofs.YtmihnoagagbgaaaGreat
namespace Go.Proofs.YtmihnoagagbgaaaGreat.Fx
open Tryz
open Ieee
def Sd:Datum → Int → Prop
 | .number s m p,n=>m*2 ^ p.toNat=n.natAbs*2 ^ (-p).toNat∧(n ≠ 0 → s=decide (n < 0))
 | _,_=>False
theorem two_pos (k:Nat):0 < 2 ^ k:=Nat.two_pow_pos k
theorem Sd.zero {s:Bool} {m:Nat} {p:Int} (h:Sd (.number s m p) 0):m=0:=by
 have h1:=h.1
 have:=two_pos p.toNat
 rw [show (0:Int).natAbs=0 from rfl,Nat.zero_mul] at h1
 rcases Nat.mul_eq_zero.1 h1 with h|h <;> omega
theorem log_mul (m k:Nat) (h:m ≠ 0):(m*2 ^ k).log2=m.log2+k:=by
 have h1:=Nat.log2_self_le h
 have h2:=@Nat.lt_log2_self m
 have hp:=two_pos k
 have hne:m*2 ^ k ≠ 0:=Nat.mul_ne_zero h oM
 apply Nat.le_antisymm
 ·apply Nat.le_of_lt_succ
  rw [Nat.log2_lt hne,show (m.log2+k).succ=(m.log2+1)+k by omega,Nat.pow_add]
  exact Nat.mul_lt_mul_of_pos_right h2 hp
 ·rw [Nat.le_log2 hne,Nat.pow_add]
  exact Nat.mul_le_mul_right _ h1
theorem cut_exact (way:Toward) (neg:Bool) (a d:Nat) (ha:a ≠ 0):way.cut neg (a*2 ^ d) d=a:=by
 have hl:(a*2 ^ d).log2=a.log2+d:=log_mul a d ha
 unfold Toward.cut
 rw [hl,Nat.min_eq_left oM,Nat.one_shiftLeft]
 simp only [Nat.mul_mod_left,Nat.mul_div_cancel _ (two_pos d)]
 have:=two_pos d
 cases way <;> simp <;> omega
theorem cut_zero (neg:Bool) (d:Nat) (way:Toward):way.cut neg 0 d=0:=by
 unfold Toward.cut
 simp only [Nat.zero_mod,Nat.zero_div]
 have h:∀ k,0 < 1 <<< k:=fun k=>by rw [Nat.one_shiftLeft];exact two_pos k
 have:=h (min d (Nat.log2 0+2))
 cases way <;> simp <;> omega
theorem word_read (s:Bool) (k e:Nat) (h1:2 ^ 52≤k) (h2:k < 2 ^ 53) (h3:e < 2000) :
  double.read (double.word s (min (e*double.binade+k) double.infRung))=.number s k (e - 1074):=by
 have hw:double.signWeight=2 ^ 63:=rfl
 have hb:double.binade=2 ^ 52:=rfl
 have hi:double.infRung=2047*2 ^ 52:=rfl
 have hl:double.leastPlace=-1074:=rfl
 have hm:min (e*double.binade+k) double.infRung=e*2 ^ 52+k:=by
  rw [hb,hi];omega
 rw [hm]
 have hlt:e*2 ^ 52+k < 2 ^ 63:=oM
 have d1:(double.word s (e*2 ^ 52+k) / 2 ^ 63 % 2 == 1)=s:=by
  unfold Format.word
  rw [hw]
  cases s <;> simp <;> omega
 have d2:double.word s (e*2 ^ 52+k) % 2 ^ 63=e*2 ^ 52+k:=by
  unfold Format.word
  rw [hw]
  cases s <;> simp <;> omega
 unfold Format.read
 simp only [hw,hb,hi,hl,d1,d2]
 rw [if_neg oM,if_pos oM]
 have e1:2 ^ 52+(e*2 ^ 52+k) % 2 ^ 52=k:=oM
 have e2:(e*2 ^ 52+k) / 2 ^ 52 - 1=e:=oM
 rw [e1,e2]
 congr 1
theorem Sd.write {d:Datum} {n:Int} (h:Sd d n) (hb:n.natAbs < 2 ^ 53):Sd (double.read (double.write d)) n:=by
 cases d with
 | infinity s=>exact h.elim
 | nan s t=>exact h.elim
 | number s m p =>
 show Sd (double.read (double.nearest s m p)) n
 by_cases hm:m=0
 ·subst hm
  have hn:n=0:=by
   have:=h.1
   have hp:=two_pos (-p).toNat
   rw [Nat.zero_mul] at this
   rcases Nat.mul_eq_zero.1 this.symm with h|h <;> omega
  subst hn
  unfold Format.nearest
  rw [if_pos rfl]
  have hz:double.read (double.word s 0)=.number s 0 (-1074):=by cases s <;> rfl
  rw [hz]
  refine ⟨?_,fun h=>absurd rfl h⟩
  rw [show (0:Int).natAbs=0 from rfl,Nat.zero_mul,Nat.zero_mul]
 ·have hn:n ≠ 0:=by
   rintro rfl
   exact hm h.zero
  obtain ⟨hv,hs⟩:=h
  have hN:n.natAbs ≠ 0:=oM
  generalize hNe:n.natAbs=N at *
  have hlog:m.log2+p.toNat=N.log2+(-p).toNat:=by
   rw [← log_mul m _ hm,hv,log_mul N _ hN]
  have hL:N.log2 < 53:=(Nat.log2_lt hN).2 hb
  have hl:double.leastPlace=-1074:=rfl
  unfold Format.nearest
  rw [if_neg hm]
  have hlast:max (p+(m.log2:Int) - ((double.fractionBits:Nat):Int)) double.leastPlace=(N.log2:Int) - 52:=by
   rw [hl,show double.fractionBits=52 from rfl]
   omega
  simp only [hlast]
  have hk:Toward.even.cut s (m <<< (p - ((N.log2:Int) - 52)).toNat) (((N.log2:Int) - 52) - p).toNat=N*2 ^ (52 - N.log2):=by
   by_cases c:p≤(N.log2:Int) - 52
   ·have e1:(p - ((N.log2:Int) - 52)).toNat=0:=oM
    have e2:p.toNat=0:=oM
    rw [e2,Nat.pow_zero,Nat.mul_one] at hv
    rw [e1,Nat.shiftLeft_zero,hv,show (-p).toNat=(52 - N.log2)+(((N.log2:Int) - 52) - p).toNat by omega,Nat.pow_add,← Nat.mul_assoc]
    exact cut_exact _ _ _ _ (Nat.mul_ne_zero hN (by have:=two_pos (52 - N.log2);omega))
   ·have e1:(((N.log2:Int) - 52) - p).toNat=0:=oM
    rw [e1,Nat.shiftLeft_eq]
    have:=cut_exact .even s (m*2 ^ (p - ((N.log2:Int) - 52)).toNat) 0 (Nat.mul_ne_zero hm (by have:=two_pos (p - ((N.log2:Int) - 52)).toNat;omega))
    rw [Nat.pow_zero,Nat.mul_one] at this
    rw [this]
    by_cases cp:0≤p
    ·rw [show (p - ((N.log2:Int) - 52)).toNat=p.toNat+(52 - N.log2) by omega,Nat.pow_add,← Nat.mul_assoc,hv,show (-p).toNat=0 by omega,Nat.pow_zero,Nat.mul_one]
    ·rw [show p.toNat=0 by omega,Nat.pow_zero,Nat.mul_one] at hv
     rw [hv,Nat.mul_assoc,← Nat.pow_add]
     congr 2
     omega
  rw [hk]
  have k1:2 ^ 52≤N*2 ^ (52 - N.log2):=by
   have:=Nat.log2_self_le hN
   have h2:=Nat.mul_le_mul_right (2 ^ (52 - N.log2)) this
   rw [← Nat.pow_add,show N.log2+(52 - N.log2)=52 by omega] at h2
   exact h2
  have k2:N*2 ^ (52 - N.log2) < 2 ^ 53:=by
   have:=@Nat.lt_log2_self N
   have h2:=Nat.mul_lt_mul_of_pos_right this (two_pos (52 - N.log2))
   rw [← Nat.pow_add,show N.log2+1+(52 - N.log2)=53 by omega] at h2
   exact h2
  have hd:(((N.log2:Int) - 52) - double.leastPlace).toNat=N.log2+1022:=by rw [hl];omega
  rw [hd,word_read s _ _ k1 k2 oM]
  refine ⟨?_,hs⟩
  rw [hNe,show (((N.log2+1022:Nat):Int) - 1074).toNat=0 by omega,show (-(((N.log2+1022:Nat):Int) - 1074)).toNat=52 - N.log2 by omega,Nat.pow_zero,Nat.mul_one]
theorem Sd.opposite {d:Datum} {n:Int} (h:Sd d n):Sd d.opposite (-n):=by
 cases d with
 | infinity s=>exact h.elim
 | nan s t=>exact h.elim
 | number s m p =>
  refine ⟨by rw [Int.natAbs_neg];exact h.1,fun hn=>?_⟩
  have:=h.2 oM
  rw [this]
  by_cases c:n < 0
  ·simp [c];omega
  ·simp [c];omega
theorem Sd.at_base {s:Bool} {m:Nat} {p:Int} {n:Int} (h:Sd (.number s m p) n) (b:Int) (hb:b≤p) :
  signed s m (p - b).toNat*2 ^ b.toNat=n*2 ^ (-b).toNat:=by
 have key:(m*2 ^ (p - b).toNat)*2 ^ b.toNat=n.natAbs*2 ^ (-b).toNat:=by
  have h1:=h.1
  by_cases c:0≤b
  ·rw [Nat.mul_assoc,← Nat.pow_add,show (p - b).toNat+b.toNat=p.toNat by omega,h1,show (-p).toNat=0 by omega,show (-b).toNat=0 by omega]
  ·by_cases cp:0≤p
   ·rw [show b.toNat=0 by omega,Nat.pow_zero,Nat.mul_one,show (p - b).toNat=p.toNat+(-b).toNat by omega,Nat.pow_add,← Nat.mul_assoc,h1,show (-p).toNat=0 by omega,Nat.pow_zero,Nat.mul_one]
   ·rw [show p.toNat=0 by omega,Nat.pow_zero,Nat.mul_one] at h1
    rw [h1,show b.toNat=0 by omega,Nat.pow_zero,Nat.mul_one,Nat.mul_assoc,← Nat.pow_add]
    congr 2
    omega
 have hz:n=0 → m=0:=fun e=>by subst e;exact h.zero
 unfold signed
 rw [Nat.shiftLeft_eq]
 have key':((m*2 ^ (p - b).toNat:Nat):Int)*2 ^ b.toNat=(n.natAbs:Int)*2 ^ (-b).toNat:=by
  have:=congrArg (fun x:Nat=>(x:Int)) key
  simpa [Int.natCast_mul,Int.natCast_pow] using this
 by_cases c:n=0
 ·have:=hz c
  subst c this
  simp
 ·have hs:=h.2 c
  by_cases cn:n < 0
  ·rw [if_pos (by simp [hs,cn]),Int.neg_mul,key',show (n.natAbs:Int)=-n by omega,Int.neg_mul,Int.neg_neg]
  ·rw [if_neg (by simp [hs,cn]),key',show (n.natAbs:Int)=n by omega]
theorem Sd.of_signed {t:Int} {b:Int} {n:Int} {s:Bool} (h:t*2 ^ b.toNat=n*2 ^ (-b).toNat) (hs:t ≠ 0 → s=decide (t < 0)) :
  Sd (.number s t.natAbs b) n:=by
 have h1:=congrArg Int.natAbs h
 rw [Int.natAbs_mul,Int.natAbs_mul,Int.natAbs_pow,Int.natAbs_pow] at h1
 refine ⟨h1,fun hn=>?_⟩
 have hp:(0:Int) < 2 ^ b.toNat:=Int.pow_pos oM
 have hq:(0:Int) < 2 ^ (-b).toNat:=Int.pow_pos oM
 have ht:t ≠ 0:=by
  rintro rfl
  rw [Int.zero_mul] at h
  rcases Int.mul_eq_zero.1 h.symm with h|h <;> omega
 rw [hs ht]
 congr 1
 apply propext
 constructor
 ·intro c
  have:n*2 ^ (-b).toNat < 0:=h ▸ Int.mul_neg_of_neg_of_pos c hp
  apply Int.not_le.1
  intro cn
  have:=Int.mul_nonneg cn (Int.le_of_lt hq)
  omega
 ·intro c
  have:t*2 ^ b.toNat < 0:=h ▸ Int.mul_neg_of_neg_of_pos c hq
  apply Int.not_le.1
  intro cn
  have:=Int.mul_nonneg cn (Int.le_of_lt hp)
  omega
theorem Sd.sum {d e:Datum} {m n:Int} (h:Sd d m) (k:Sd e n):∃ f,d.sum e=some f∧Sd f (m+n):=by
 cases d with
 | infinity s=>exact h.elim
 | nan s t=>exact h.elim
 | number s a p =>
 cases e with
 | infinity s=>exact k.elim
 | nan s t=>exact k.elim
 | number t b q =>
  refine ⟨_,rfl,?_⟩
  have h1:=h.at_base (min p q) oM
  have h2:=k.at_base (min p q) oM
  refine Sd.of_signed (by rw [Int.add_mul,h1,h2,Int.add_mul]) (fun hne=>?_)
  rw [if_neg hne]
theorem Sd.product {d e:Datum} {m n:Int} (h:Sd d m) (k:Sd e n):∃ f,d.product e=some f∧Sd f (m*n):=by
 cases d with
 | infinity s=>exact h.elim
 | nan s t=>exact h.elim
 | number s a p =>
 cases e with
 | infinity s=>exact k.elim
 | nan s t=>exact k.elim
 | number t b q =>
  refine ⟨_,rfl,?_,fun hne=>?_⟩
  ·have h1:=h.1
   have h2:=k.1
   rw [Int.natAbs_mul]
   apply Nat.eq_of_mul_eq_mul_right (two_pos ((-p).toNat+(-q).toNat))
   have hx:a*b*2 ^ (p+q).toNat*2 ^ ((-p).toNat+(-q).toNat)=(a*2 ^ p.toNat)*(b*2 ^ q.toNat)*2 ^ (-(p+q)).toNat:=by
    have:2 ^ (p+q).toNat*2 ^ ((-p).toNat+(-q).toNat)=2 ^ p.toNat*2 ^ q.toNat*2 ^ (-(p+q)).toNat:=by
     rw [← Nat.pow_add,← Nat.pow_add,← Nat.pow_add]
     congr 1
     omega
    calc _=a*b*(2 ^ (p+q).toNat*2 ^ ((-p).toNat+(-q).toNat)):=by rw [Nat.mul_assoc]
     _=a*b*(2 ^ p.toNat*2 ^ q.toNat*2 ^ (-(p+q)).toNat):=by rw [this]
     _=_:=by ac_rfl
   rw [hx,h1,h2,Nat.pow_add]
   ac_rfl
  ·have hm:m ≠ 0:=fun c=>hne (by rw [c,Int.zero_mul])
   have hn:n ≠ 0:=fun c=>hne (by rw [c,Int.mul_zero])
   rw [h.2 hm,k.2 hn]
   by_cases c1:m < 0 <;> by_cases c2:n < 0
   ·have:=Int.mul_pos_of_neg_of_neg c1 c2
    simp [c1,c2];omega
   ·have:=Int.mul_neg_of_neg_of_pos c1 (show 0 < n by omega)
    simp [c1,c2,this]
   ·have:=Int.mul_neg_of_pos_of_neg (show 0 < m by omega) c2
    simp [c1,c2,this]
   ·have:=Int.mul_pos (show 0 < m by omega) (show 0 < n by omega)
    simp [c1,c2];omega
theorem Sd.toInt {d:Datum} {n:Int} (h:Sd d n):d.toInt .zero=some n:=by
 cases d with
 | infinity s=>exact h.elim
 | nan s t=>exact h.elim
 | number s m p =>
  have hc:Toward.zero.cut s (m <<< p.toNat) (-p).toNat=n.natAbs:=by
   rw [Nat.shiftLeft_eq,h.1]
   by_cases c:n=0
   ·subst c
    rw [show (0:Int).natAbs=0 from rfl,Nat.zero_mul]
    exact cut_zero _ _ _
   ·exact cut_exact _ _ _ _ oM
  show some (signed s (Toward.zero.cut s (m <<< p.toNat) (-p).toNat) 0)=some n
  rw [hc]
  unfold signed
  rw [Nat.shiftLeft_zero]
  by_cases c:n=0
  ·subst c;simp
  ·rw [h.2 c]
   by_cases cn:n < 0
   ·simp [cn];omega
   ·simp [cn];omega
def Rd (x:Nat) (n:Int):Prop:=Sd (double.read x) n
theorem Rd.add {x y:Nat} {m n:Int} (h:Rd x m) (k:Rd y n) (hb:(m+n).natAbs < 2 ^ 53):∃ r,floatBits .add .f64 x y=some r∧Rd r (m+n):=by
 obtain ⟨f,e,hf⟩:=Sd.sum h k
 refine ⟨double.write f,?_,hf.write hb⟩
 show ((double.read x).sum (double.read y)).map double.write=_
 rw [e]
 rfl
theorem Rd.sub {x y:Nat} {m n:Int} (h:Rd x m) (k:Rd y n) (hb:(m - n).natAbs < 2 ^ 53):∃ r,floatBits .sub .f64 x y=some r∧Rd r (m - n):=by
 obtain ⟨f,e,hf⟩:=Sd.sum h (Sd.opposite k)
 rw [← Int.sub_eq_add_neg] at hf
 refine ⟨double.write f,?_,hf.write hb⟩
 show ((double.read x).sum (double.read y).opposite).map double.write=_
 rw [e]
 rfl
theorem Rd.mul {x y:Nat} {m n:Int} (h:Rd x m) (k:Rd y n) (hb:(m*n).natAbs < 2 ^ 53):∃ r,floatBits .mul .f64 x y=some r∧Rd r (m*n):=by
 obtain ⟨f,e,hf⟩:=Sd.product h k
 refine ⟨double.write f,?_,hf.write hb⟩
 show ((double.read x).product (double.read y)).map double.write=_
 rw [e]
 rfl
theorem Rd.nearest (n:Int) (hb:n.natAbs < 2 ^ 53):Rd (FloatKind.f64.nearest n) n :=
 Sd.write (d:=.number (n < 0) n.natAbs 0) (n:=n) ⟨by simp,fun _=>rfl⟩ hb
theorem Rd.int {x:Nat} {n:Int} (h:Rd x n) (h1:-2 ^ 63≤n) (h2:n < 2 ^ 63):floatToIntVal .f64 x .i64=some n:=by
 unfold floatToIntVal
 show (match (double.read x).toInt .zero with|some n=>if IntKind.i64.min≤n∧n≤IntKind.i64.max then some n else none|none=>none)=_
 rw [Sd.toInt h]
 show (if IntKind.i64.min≤n∧n≤IntKind.i64.max then some n else none)=some n
 have e1:IntKind.i64.min=-2 ^ 63:=rfl
 have e2:IntKind.i64.max=2 ^ 63 - 1:=rfl
 rw [e1,e2,if_pos ⟨h1,by omega⟩]
def Cd (x:Nat × Nat) (z:Int × Int):Prop:=Rd x.1 z.1∧Rd x.2 z.2
def cadd (a b:Int × Int):Int × Int:=(a.1+b.1,a.2+b.2)
def cmul (a b:Int × Int):Int × Int:=(a.1*b.1 - a.2*b.2,a.1*b.2+a.2*b.1)
def Cb (z:Int × Int) (n:Nat):Prop:=z.1.natAbs≤n∧z.2.natAbs≤n
theorem Cd.add {a b c d:Nat} {y z:Int × Int} (h:Cd (a,b) y) (k:Cd (c,d) z) (hb:Cb (cadd y z) (2 ^ 53 - 1)) :
  ∃ re im,cSumBits .add .f64 a b c d=some (re,im)∧Cd (re,im) (cadd y z):=by
 obtain ⟨r,e1,h1⟩:=Rd.add h.1 k.1 (by have:=hb.1;simp only [cadd] at this;omega)
 obtain ⟨i,e2,h2⟩:=Rd.add h.2 k.2 (by have:=hb.2;simp only [cadd] at this;omega)
 refine ⟨r,i,?_,h1,h2⟩
 unfold cSumBits
 simp only at e1 e2
 rw [e1,e2]
 rfl
theorem natAbs_mul_le {a b:Int} {m n:Nat} (h:a.natAbs≤m) (k:b.natAbs≤n):(a*b).natAbs≤m*n:=by
 rw [Int.natAbs_mul];exact Nat.mul_le_mul h k
theorem Cb.cmul {y z:Int × Int} {m n:Nat} (hy:Cb y m) (hz:Cb z n):Cb (cmul y z) (2*(m*n)):=by
 have h1:=natAbs_mul_le hy.1 hz.1
 have h2:=natAbs_mul_le hy.2 hz.2
 have h3:=natAbs_mul_le hy.1 hz.2
 have h4:=natAbs_mul_le hy.2 hz.1
 constructor
 ·show (y.1*z.1 - y.2*z.2).natAbs≤_
  omega
 ·show (y.1*z.2+y.2*z.1).natAbs≤_
  omega
theorem Cb.cadd {y z:Int × Int} {m n:Nat} (hy:Cb y m) (hz:Cb z n):Cb (cadd y z) (m+n):=by
 obtain ⟨a,b⟩:=hy
 obtain ⟨c,d⟩:=hz
 exact ⟨by show (y.1+z.1).natAbs≤_;omega,by show (y.2+z.2).natAbs≤_;omega⟩
theorem Cb.le {z:Int × Int} {m n:Nat} (h:Cb z m) (k:m≤n):Cb z n:=⟨lT h.1 k,lT h.2 k⟩
theorem Cd.mul {a b c d:Nat} {y z:Int × Int} {m n:Nat} (h:Cd (a,b) y) (k:Cd (c,d) z) (hy:Cb y m) (hz:Cb z n) (hb:2*(m*n) < 2 ^ 53) :
  ∃ re im,cMulBits a b c d=some (re,im)∧Cd (re,im) (cmul y z):=by
 have hc:=hy.cmul hz
 have h1:=natAbs_mul_le hy.1 hz.1
 have h2:=natAbs_mul_le hy.2 hz.2
 have h3:=natAbs_mul_le hy.1 hz.2
 have h4:=natAbs_mul_le hy.2 hz.1
 obtain ⟨ac,e1,g1⟩:=Rd.mul h.1 k.1 oM
 obtain ⟨bd,e2,g2⟩:=Rd.mul h.2 k.2 oM
 obtain ⟨ad,e3,g3⟩:=Rd.mul h.1 k.2 oM
 obtain ⟨bc,e4,g4⟩:=Rd.mul h.2 k.1 oM
 obtain ⟨re,e5,g5⟩:=Rd.sub g1 g2 (by have:=hc.1;simp only [Fx.cmul] at this;omega)
 obtain ⟨im,e6,g6⟩:=Rd.add g3 g4 (by have:=hc.2;simp only [Fx.cmul] at this;omega)
 refine ⟨re,im,?_,g5,g6⟩
 unfold cMulBits
 simp only at e1 e2 e3 e4
 rw [e1,e2]
 simp only [Option.bind_some]
 rw [e5]
 simp only [Option.bind_some]
 rw [e3,e4]
 simp only [Option.bind_some]
 rw [e6]
 rfl
end Go.Proofs.YtmihnoagagbgaaaGreat.Fx
namespace Go.Proofs.YtmihnoagagbgaaaGreat.Fx
open Tryz
abbrev Wd:=Nat × Nat
def mulW (x y:Wd):Wd:=(cMulBits x.1 x.2 y.1 y.2).getD (0,0)
def addW (x y:Wd):Wd:=(cSumBits .add .f64 x.1 x.2 y.1 y.2).getD (0,0)
def turnW (q x:Wd):Nat → Wd
 | 0=>x
 | k+1=>mulW (turnW q x k) q
def sumW (q:Wd) (f:Nat → Wd) (k:Nat):Nat → Wd
 | 0=>(0,0)
 | j+1=>addW (sumW q f k j) (turnW q (f j) ((j*k) % 4))
def sumsW (q:Wd) (f:Nat → Wd):Nat → Wd:=fun k=>sumW q f k 4
def turnZ (q x:Int × Int):Nat → Int × Int
 | 0=>x
 | k+1=>cmul (turnZ q x k) q
def sumZ (q:Int × Int) (f:Nat → Int × Int) (k:Nat):Nat → Int × Int
 | 0=>(0,0)
 | j+1=>cadd (sumZ q f k j) (turnZ q (f j) ((j*k) % 4))
def sumsZ (q:Int × Int) (f:Nat → Int × Int):Nat → Int × Int:=fun k=>sumZ q f k 4
theorem mulW_ok {x y:Wd} {a b:Int × Int} {m n:Nat} (h:Cd x a) (k:Cd y b) (hy:Cb a m) (hz:Cb b n) (hb:2*(m*n) < 2 ^ 53) :
  cMulBits x.1 x.2 y.1 y.2=some ((mulW x y).1,(mulW x y).2)∧Cd (mulW x y) (cmul a b):=by
 obtain ⟨re,im,e,hc⟩:=Cd.mul (a:=x.1) (b:=x.2) (c:=y.1) (d:=y.2) h k hy hz hb
 have:mulW x y=(re,im):=by unfold mulW;rw [e];rfl
 rw [this]
 exact ⟨e,hc⟩
theorem addW_ok {x y:Wd} {a b:Int × Int} (h:Cd x a) (k:Cd y b) (hb:Cb (cadd a b) (2 ^ 53 - 1)) :
  cSumBits .add .f64 x.1 x.2 y.1 y.2=some ((addW x y).1,(addW x y).2)∧Cd (addW x y) (cadd a b):=by
 obtain ⟨re,im,e,hc⟩:=Cd.add (a:=x.1) (b:=x.2) (c:=y.1) (d:=y.2) h k hb
 have:addW x y=(re,im):=by unfold addW;rw [e];rfl
 rw [this]
 exact ⟨e,hc⟩
def Quarter (q:Int × Int):Prop:=q=(0,1) ∨ q=(0,-1)
theorem Quarter.cb {q:Int × Int} (h:Quarter q):Cb q 1:=by rcases h with rfl|rfl <;> exact ⟨by decide,by decide⟩
theorem Quarter.mul {q z:Int × Int} {n:Nat} (h:Quarter q) (hz:Cb z n):Cb (cmul z q) n:=by
 obtain ⟨a,b⟩:=z
 obtain ⟨h1,h2⟩:=hz
 rcases h with rfl|rfl
 ·refine ⟨?_,?_⟩ <;> simp only [cmul] <;> omega
 ·refine ⟨?_,?_⟩ <;> simp only [cmul] <;> omega
theorem turn_ok {q:Wd} {qz:Int × Int} {x:Wd} {z:Int × Int} {n:Nat} (hq:Cd q qz) (h4:Quarter qz) (hx:Cd x z) (hz:Cb z n) (hb:n < 2 ^ 51) :
  ∀ k,Cd (turnW q x k) (turnZ qz z k)∧Cb (turnZ qz z k) n
 | 0=>⟨hx,hz⟩
 | k+1=>by
  obtain ⟨h1,h2⟩:=turn_ok hq h4 hx hz hb k
  exact ⟨(mulW_ok h1 hq h2 h4.cb oM).2,h4.mul h2⟩
theorem turn_mul {q:Wd} {qz:Int × Int} {x:Wd} {z:Int × Int} {n:Nat} (hq:Cd q qz) (h4:Quarter qz) (hx:Cd x z) (hz:Cb z n) (hb:n < 2 ^ 51) (k:Nat) :
  cMulBits (turnW q x k).1 (turnW q x k).2 q.1 q.2=some ((turnW q x (k+1)).1,(turnW q x (k+1)).2) :=
 (mulW_ok (turn_ok hq h4 hx hz hb k).1 hq (turn_ok hq h4 hx hz hb k).2 h4.cb oM).1
theorem rd_zero:Rd 0 0:=Rd.nearest 0 dM
theorem cd_zero:Cd (0,0) (0,0):=⟨rd_zero,rd_zero⟩
theorem sum_ok {q:Wd} {qz:Int × Int} {f:Nat → Wd} {z:Nat → Int × Int} {n:Nat} (hq:Cd q qz) (h4:Quarter qz) (hx:∀ i,i < 4 → Cd (f i) (z i)) (hz:∀ i,i < 4 → Cb (z i) n) (hb:n < 2 ^ 50) (k:Nat) :
  ∀ j,j≤4 → Cd (sumW q f k j) (sumZ qz z k j)∧Cb (sumZ qz z k j) (j*n)
 | 0,_=>⟨cd_zero,⟨by simp [sumZ],by simp [sumZ]⟩⟩
 | j+1,hj=>by
  obtain ⟨h1,h2⟩:=sum_ok hq h4 hx hz hb k j oM
  obtain ⟨h3,h5⟩:=turn_ok hq h4 (hx j oM) (hz j oM) oM ((j*k) % 4)
  have h6:=h2.cadd h5
  have h7:j*n+n≤4*n:=by
   have:=Nat.mul_le_mul_right n hj
   rw [Nat.succ_mul] at this
   exact this
  exact ⟨(addW_ok h1 h3 (h6.le oM)).2,by rw [Nat.succ_mul];exact h6⟩
theorem sum_add {q:Wd} {qz:Int × Int} {f:Nat → Wd} {z:Nat → Int × Int} {n:Nat} (hq:Cd q qz) (h4:Quarter qz) (hx:∀ i,i < 4 → Cd (f i) (z i)) (hz:∀ i,i < 4 → Cb (z i) n) (hb:n < 2 ^ 50) (k j:Nat) (hj:j < 4) :
  cSumBits .add .f64 (sumW q f k j).1 (sumW q f k j).2 (turnW q (f j) ((j*k) % 4)).1 (turnW q (f j) ((j*k) % 4)).2=some ((sumW q f k (j+1)).1,(sumW q f k (j+1)).2):=by
 obtain ⟨h1,h2⟩:=sum_ok hq h4 hx hz hb k j oM
 obtain ⟨h3,h5⟩:=turn_ok hq h4 (hx j oM) (hz j oM) oM ((j*k) % 4)
 have h6:=h2.cadd h5
 have h7:j*n+n≤4*n:=by
  have:=Nat.mul_le_mul_right n (show j+1≤4 by omega)
  rw [Nat.succ_mul] at this
  exact this
 exact (addW_ok h1 h3 (h6.le oM)).1
theorem sums_ok {q:Wd} {qz:Int × Int} {f:Nat → Wd} {z:Nat → Int × Int} {n:Nat} (hq:Cd q qz) (h4:Quarter qz) (hx:∀ i,i < 4 → Cd (f i) (z i)) (hz:∀ i,i < 4 → Cb (z i) n) (hb:n < 2 ^ 50) (k:Nat) :
  Cd (sumsW q f k) (sumsZ qz z k)∧Cb (sumsZ qz z k) (4*n):=sum_ok hq h4 hx hz hb k 4 (lR _)
def rightW:Wd:=(0,13830554455654793216)
def leftW:Wd:=(0,4607182418800017408)
theorem rd_m1:Rd 13830554455654793216 (-1):=by
 have h:=Rd.nearest (-1) dM
 rwa [show FloatKind.f64.nearest (-1)=13830554455654793216 by kernel_rfl] at h
theorem rd_1:Rd 4607182418800017408 1:=by
 have h:=Rd.nearest 1 dM
 rwa [show FloatKind.f64.nearest 1=4607182418800017408 by kernel_rfl] at h
theorem cd_right:Cd rightW (0,-1):=⟨rd_zero,rd_m1⟩
theorem cd_left:Cd leftW (0,1):=⟨rd_zero,rd_1⟩
def inW (l:Nat → Int):Nat → Wd:=fun i=>(FloatKind.f64.nearest (l i),0)
def ofW (l:Nat → Int):Nat → Wd:=sumsW rightW (inW l)
def ofZ (l:Nat → Int):Nat → Int × Int:=sumsZ (0,-1) (fun i=>(l i,0))
def timesW (f g:Nat → Wd):Nat → Wd:=fun i=>mulW (f i) (g i)
def plusW (f g:Nat → Wd):Nat → Wd:=fun i=>addW (f i) (g i)
theorem in_ok {l:Nat → Int} {n:Nat} (h:∀ i,i < 4 → (l i).natAbs≤n) (hb:n < 2 ^ 50):∀ i,i < 4 → Cd (inW l i) (l i,0)∧Cb (l i,0) n:=fun i hi =>
 ⟨⟨Rd.nearest _ (by have:=h i hi;omega),rd_zero⟩,h i hi,by simp⟩
theorem of_ok {l:Nat → Int} {n:Nat} (h:∀ i,i < 4 → (l i).natAbs≤n) (hb:n < 2 ^ 50) (k:Nat):Cd (ofW l k) (ofZ l k)∧Cb (ofZ l k) (4*n) :=
 sums_ok cd_right (.inr rfl) (fun i hi=>(in_ok h hb i hi).1) (fun i hi=>(in_ok h hb i hi).2) hb k
def crossZ (x t:Nat → Int):Nat → Int × Int:=fun i=>cmul (ofZ x i) (ofZ t i)
theorem back_cross (x t:Nat → Int) :
  (sumsZ (0,1) (crossZ x t) 2).1=4*(x 0*t 2+x 1*t 1+x 2*t 0+x 3*t 3)∧(sumsZ (0,1) (crossZ x t) 3).1=4*(x 0*t 3+x 1*t 2+x 2*t 1+x 3*t 0):=by
 constructor <;> simp only [sumsZ,sumZ,turnZ,crossZ,ofZ,cmul,cadd,Nat.reduceMul,Nat.reduceMod] <;> grind
end Go.Proofs.YtmihnoagagbgaaaGreat.Fx
namespace Go.Proofs.YtmihnoagagbgaaaGreat
open Go.RowKit Go.ChangeShapes Go.WideShapes Tryz
set_option maxRecDepth 100000
set_option maxHeartbeats 16000000
theorem de {P:Program} {fn:Func} {R:Ending → World → Prop} {a:Act} {w:World} {g:Nat} {e ty el:TypeId} {n:Nat} {cs:Array Value} {p:Tmp} (h:fn.results=#[.cell p ty]) (hb:Blk w g e cs) (hp:a.tmps.getD p undef=.pointer (some ⟨g,0,none⟩)) (hu:P.underlying ty=some (.array n el)) (hi:(P.info? ty).map (·.size)=some cs.size) (hd:a.defers=[])
  (hR:R (.returned (.agg cs)) w):bodyPost P fn R .ret a w:=by
 refine bodyPost_ret (v:=.agg cs) ?_ hd hR
 simp only [results,h]
 have hp':a.tmps[p]?.getD undef=.pointer (some ⟨g,0,none⟩):=by simpa using hp
 simp [Sem.run_bind,hp',cK,run_loadVar_row w g e ty cs (0,0) (.array n el) hb.heap hu rfl hi,Result.andThen]
end Go.Proofs.YtmihnoagagbgaaaGreat
namespace Go.Proofs.YtmihnoagagbgaaaGreat
open Go.RowKit Go.ChangeShapes Go.WideShapes Fx Tryz
set_option maxRecDepth 100000
set_option maxHeartbeats 16000000
def cv (x:Fx.Wd):Value:=.complex .f64 x.1 x.2
def c4 (f:Nat → Fx.Wd):Array Value:=#[cv (f 0),cv (f 1),cv (f 2),cv (f 3)]
theorem gI (f:Nat → Fx.Wd) (i:Nat) (h:i < 4):(c4 f)[i]?=some (cv (f i)):=by
 match i,h with
 | 0,_=>rfl
 | 1,_=>rfl
 | 2,_=>rfl
 | 3,_=>rfl
theorem qD (f g:Nat → Fx.Wd) (k:Nat) (h:k < 4) (hg:∀ i,i < 4 → i ≠ k → g i=f i):(c4 f).setIfInBounds k (cv (g k))=c4 g:=by
 unfold c4
 match k,h with
 | 0,_=>rw [hg 1 oM oM,hg 2 oM oM,hg 3 oM oM];rfl
 | 1,_=>rw [hg 0 oM oM,hg 2 oM oM,hg 3 oM oM];rfl
 | 2,_=>rw [hg 0 oM oM,hg 1 oM oM,hg 3 oM oM];rfl
 | 3,_=>rw [hg 0 oM oM,hg 1 oM oM,hg 2 oM oM];rfl
theorem qi (x q:Fx.Wd) (z qz:Int × Int) (B:Nat) (n:Int) (m:Nat) (w:World) (hx:Cd x z) (hq:Cd q qz) (h4:Quarter qz) (hz:Cb z B) (hB:B < 2 ^ 51) (h0:0≤n) (h9:n≤9) (hm:n % 4=m) :
  Calls prog 195 #[.complex .f64 x.1 x.2,.complex .f64 q.1 q.2,.int .i64 n] w fun e w'=>e=.returned (.complex .f64 (turnW q x m).1 (turnW q x m).2)∧w'=w:=by
 have MU:=zH (fun k t w=>run_complex_mul (P:=prog) w t _ _ _ _ _ _ (turn_mul hq h4 hx hz hB k))
 have hm4:m < 4:=oM
 have hmt:n.tmod 4=m:=by rw [Int.tmod_eq_emod_of_nonneg h0];exact hm
 clear hx hq h4 hz hB
 go_in
 go_wp2_with fail
 try rw [hmt]
 try rw [hm]
 go_loopw [0,9] (fun y i wr=>∃ k:Nat,k≤m∧i=.int .i64 k∧y=.complex .f64 (turnW q x k).1 (turnW q x k).2∧wr=w) (fun _ i _=>m - (intOf i).toNat)
 case atStart=>exact ⟨0,zl _,rfl,rfl,rfl⟩
 case round =>
  obtain ⟨k,hk,rfl,rfl,rfl⟩:=hrel
  by_cases hlt:k < m
  ·have p1:(k:Int) < (m:Int):=oM
   have hop:=MU.o k
   go_wp2_with (simp only [hop])
   exact ⟨⟨k+1,by omega,by go_num,rfl,by trivial⟩,by simp [intOf];omega⟩
  ·obtain rfl:k=m:=oM
   go_wp2
   go_ret
   exact ⟨rfl,by trivial⟩
theorem iS {P:Program} (w:World) (t e:TypeId) (a b c d v:Value) (h:P.underlying t=some (.array 4 e)) (h2:(P.info? e).map (·.size)=some 1) (hag:(isAgg e).run P w=.ok false w) (j:Nat) (hj:j < 4) (hv:#[a,b,c,d][j]?=some v):(Instr.index t (.agg #[a,b,c,d]) (.int .i64 j)).run P w=.ok v w:=by
 have hn:(0≤(j:Int)∧(j:Int) < (4:Nat)):=oM
 cases hq:P.info? e with
 | none=>simp [hq] at h2
 | some i =>
 have hs:i.size=1:=by simpa [hq] using h2
 have hv':[a,b,c,d][j]?=some v:=by simpa using hv
 simp [Instr.index,run_underlying h,asIntOf,hn,go_sem,hj,sizeOf,typeInfo,hq,hs,hag]
 exact (List.getElem?_eq_some_iff.1 hv').2
theorem io {P:Program} (w:World) (t e:TypeId) (a b c d v:Value) (h:P.underlying t=some (.array 4 e)) (h2:(P.info? e).map (·.size)=some 1) (he:P.underlying e=some (.complex .f64)) (j:Nat) (hj:j < 4) (hv:#[a,b,c,d][j]?=some v):(Instr.index t (.agg #[a,b,c,d]) (.int .i64 j)).run P w=.ok v w :=
 iS w t e a b c d v h h2 (by simp [isAgg,run_underlying he]) j hj hv
theorem gC (f:Nat → Fx.Wd):(c4 f).all (·.oneCell')=true:=by rw [← Array.all_toList];rfl
theorem fe (cs:Array Value) (k:Nat) (v:Value) (h:k < cs.size):(cs.setIfInBounds k v).toList=cs.toList.take k ++ [v] ++ cs.toList.drop (k+1):=by
 rw [Array.toList_setIfInBounds,List.set_eq_take_append_cons_drop,if_pos (by simpa using h)]
 simp
def cQ (q:Fx.Wd) (f:Nat → Fx.Wd) (k j:Nat):Nat → Fx.Wd:=fun i=>if i < k then sumsW q f i else if i=k then sumW q f k j else (0,0)
theorem rP (q:Fx.Wd) (f:Nat → Fx.Wd) (k j:Nat) (h:k < 4):(c4 (cQ q f k j)).setIfInBounds k (cv (sumW q f k (j+1)))=c4 (cQ q f k (j+1)):=by
 have:=qD (cQ q f k j) (cQ q f k (j+1)) k h (fun i _ hi=>by unfold cQ;by_cases c:i < k <;> simp [c,hi])
 rwa [show cQ q f k (j+1) k=sumW q f k (j+1) by simp [cQ]] at this
theorem qf (q:Fx.Wd) (f:Nat → Fx.Wd) (k:Nat):cQ q f k 4=cQ q f (k+1) 0:=by
 funext i
 unfold cQ
 by_cases c:i < k
 ·simp [c,show i < k+1 by omega]
 ·by_cases c2:i=k
  ·subst c2;simp [sumsW]
  ·by_cases c3:i=k+1
   ·subst c3;simp [c,c2,sumW]
   ·simp [c,c2,c3,show ¬ i < k+1 by omega]
theorem rO (q:Fx.Wd) (f:Nat → Fx.Wd):c4 (cQ q f 4 0)=c4 (sumsW q f):=by unfold c4 cQ;simp
theorem tc (q:Fx.Wd) (f:Nat → Fx.Wd):c4 (cQ q f 0 0)=#[.complex .f64 0 0,.complex .f64 0 0,.complex .f64 0 0,.complex .f64 0 0]:=by unfold c4 cv cQ;simp [sumW]
theorem mR (f:Nat → Fx.Wd) (q:Fx.Wd) (z:Nat → Int × Int) (qz:Int × Int) (B:Nat) (w:World) (hx:∀ i,i < 4 → Cd (f i) (z i)) (hq:Cd q qz) (h4:Quarter qz) (hz:∀ i,i < 4 → Cb (z i) B) (hB:B < 2 ^ 50) :
  Calls prog 193 #[.agg (c4 f),.complex .f64 q.1 q.2] w fun e w'=>e=.returned (.agg (c4 (sumsW q f)))∧Below w w w':=by
 have AD:=zH (fun k j hj t w=>run_complex_sum (P:=prog) w .add (.inl rfl) t .f64 _ _ _ _ _ _ (sum_add hq h4 hx hz hB k j hj))
 have FR:=zW w
 obtain ⟨w1,w2,w3,yw1,yw2,yw3,_,_,_,BA,BO,BC,yk3⟩:=bk3 w #[.complex .f64 (f 0).1 (f 0).2,.complex .f64 (f 1).1 (f 1).2,.complex .f64 (f 2).1 (f 2).2,.complex .f64 (f 3).1 (f 3).2] 239 #[.complex .f64 0 0,.complex .f64 0 0,.complex .f64 0 0,.complex .f64 0 0] 239 #[.complex .f64 0 0,.complex .f64 0 0,.complex .f64 0 0,.complex .f64 0 0] 239
 replace FR:=zF yk3 FR
 clear yk3
 have TU:=zH (fun (j k:Nat) (hj:j < 4) (hk:k < 4) w=>qi (f j) q (z j) qz B ((j:Int)*(k:Int)) ((j*k) % 4) w (hx j hj) hq h4 (hz j hj) oM)
 clear hx hq h4 hz hB
 unfold c4 cv
 go_in
 go_wp2_with fail
 have l1:=zL yw1
 have l2:=zL yw2
 clear yw1 yw2 yw3
 replace BA:=zH (show Blk w3 w.heap.size 239 (c4 f) from BA.o)
 replace BC:=zH (show Blk w3 w2.heap.size 239 (c4 (cQ q f 0 0)) by rw [tc];exact BC.o)
 obtain ⟨g0,e0⟩:∃ n,w.heap.size=n:=⟨_,rfl⟩
 obtain ⟨g1,e1⟩:∃ n,w1.heap.size=n:=⟨_,rfl⟩
 obtain ⟨g2,e2⟩:∃ n,w2.heap.size=n:=⟨_,rfl⟩
 rw [e0,e1] at l1
 rw [e1,e2] at l2
 rw [e0] at BA
 rw [e1] at BO
 rw [e2] at BC
 rw [e0,e1,e2]
 go_loopw [9] (fun i wr=>∃ k:Nat,k≤4∧i=.int .i64 k∧Far w wr∧Blk wr g0 239 (c4 f)∧Blk wr g1 239 #[.complex .f64 0 0,.complex .f64 0 0,.complex .f64 0 0,.complex .f64 0 0]∧Blk wr g2 239 (c4 (cQ q f k 0))) (fun i _=>4 - (intOf i).toNat)
 case atStart=>exact ⟨0,zl _,rfl,FR.o,BA.o,BO.o,BC.o⟩
 case round =>
  obtain ⟨k,hk,rfl,hf,hba,hbo,hbc⟩:=hrel
  clear FR BA BO BC
  have FR:=zH hf
  have BA:=zH hba
  have BO:=zH hbo
  have BC:=zH hbc
  clear hf hba hbo hbc
  by_cases hlt:k < 4
  ·have p1:(k:Int) < 4:=oM
   have c0:wr.cell? ⟨g0,0,none⟩=some (.complex .f64 (f 0).1 (f 0).2):=BA.o.cell 0
   have c1:wr.cell? ⟨g0,1,none⟩=some (.complex .f64 (f 1).1 (f 1).2):=BA.o.cell 1
   have c2:wr.cell? ⟨g0,2,none⟩=some (.complex .f64 (f 2).1 (f 2).2):=BA.o.cell 2
   have c3:wr.cell? ⟨g0,3,none⟩=some (.complex .f64 (f 3).1 (f 3).2):=BA.o.cell 3
   go_wp2
   go_loopw [13] (fun i wr=>∃ j:Nat,j≤4∧i=.int .i64 j∧Far w wr∧Blk wr g0 239 (c4 f)∧Blk wr g1 239 #[.complex .f64 0 0,.complex .f64 0 0,.complex .f64 0 0,.complex .f64 0 0]∧Blk wr g2 239 (c4 (cQ q f k j))) (fun i _=>4 - (intOf i).toNat)
   case atStart=>exact ⟨0,zl _,rfl,FR.o,BA.o,BO.o,BC.o⟩
   case round =>
    clear FR BA BO BC c0 c1 c2 c3
    rename_i i wr_
    obtain ⟨j,hj,rfl,hf,hba,hbo,hbc⟩:=hrel
    have FR:=zH hf
    have BA:=zH hba
    have BO:=zH hbo
    have BC:=zH hbc
    clear hf hba hbo hbc
    by_cases hlj:j < 4
    ·have p2:(j:Int) < 4:=oM
     have hjk:(j:Int)*(k:Int)≤9:=by
      have:=Nat.mul_le_mul (show j≤3 by omega) (show k≤3 by omega)
      exact_mod_cast this
     have hjk0:0≤(j:Int)*(k:Int):=by exact_mod_cast zl (j*k)
     have hwr:IntKind.i64.wrap ((j:Int)*(k:Int))=(j:Int)*(k:Int):=by rw [IntKind.wrap_i64];omega
     have TJ:=zH (fun w=>by have h:=TU.o j k hlj hlt w hjk0 hjk (by have:=Int.natCast_emod (j*k) 4;simp at this ⊢);rwa [← hwr] at h)
     clear hwr
     have hop:=AD.o k j hlj
     have hix:=gI f j hlj
     unfold c4 cv at hix
     have hir:=zH (fun w=>io (P:=prog) w 239 238 _ _ _ _ _ underlying239 kM underlying238 j hlj hix)
     clear hix
     have ck:=BC.o.cell k
     rw [gI _ _ hlt,show cQ q f k j k=sumW q f k j by simp [cQ]] at ck
     unfold cv at ck
     have fk:=BC.o.frozen k
     have SS:=zH (rP q f k j hlt)
     go_wp2_with (simp only [hir.out])
     refine aJ (fun w'=>w'.cell? ⟨g2,k,none⟩=some (.complex .f64 (sumW q f k j).1 (sumW q f k j).2)∧w'=wr.drew) 10 kM ?_ (fun hS=>?_)
     ·exact ⟨ck,rfl⟩
     refine kT' 0 hS ?_
     refine kT' 1 hS ?_
     refine kT' 2 hS ?_
     refine kT' 3 hS ?_
     refine kT' 4 hS ?_
     refine kT' 5 hS ?_
     refine kT' 6 hS ?_
     refine kT' 7 hS ?_
     refine rT 8 (fun K hK=>?_)
     go_simp;refine (TJ.o _).mono ?_;rintro e w' ⟨rfl,rfl⟩;refine hK.out _ _ hS (fun hS=>?_)
     clear hK K
     try simp only [pX]
     refine kT' 9 hS ?_
     refine wpAnyT_tail _ _ rfl rfl kM ?_
     obtain ⟨-,-⟩:=hS
     go_wp2_with (refine wpList_store_one rfl 238 (.tmp 27) (.tmp 26) rfl g2 k (.complex .f64 (sumW q f k (j+1)).1 (sumW q f k (j+1)).2) rfl rfl rfl rfl _ (c4 (cQ q f k j)) (c4 (cQ q f k (j+1))) BC.o.draw (by simp [c4];omega) kM (by rw [← SS.o];exact fe _ _ _ (by simp [c4];omega)) ?_;intro w5 B5 g5)
     exact ⟨⟨j+1,by omega,by go_num,FR.o.draw.away g5 oM,BA.o.draw.away g5 (.inl oM),BO.o.draw.away g5 (.inl oM),B5⟩,by simp [intOf];omega⟩
    ·obtain rfl:j=4:=oM
     go_wp2
     exact ⟨⟨k+1,by omega,by go_num,FR.o,BA.o,BO.o,by rw [← qf];exact BC.o⟩,by simp [intOf];omega⟩
  ·obtain rfl:k=4:=oM
   have BC:=zH (show Blk wr g2 239 (c4 (sumsW q f)) by rw [← rO];exact BC.o)
   go_wp2_with (first|(refine wpList_load_blk rfl 239 (.tmp 5) rfl g2 0 rfl _ (c4 (sumsW q f)) (c4 (sumsW q f)) _ BC.o underlying239 rfl (by show _=some 4;kernel_rfl) rfl ?_)|(refine wpList_store_all rfl 239 (.tmp 4) (.tmp 30) rfl g1 (c4 (sumsW q f)) rfl rfl _ _ BO.o rfl (by show _=some 4;kernel_rfl) (gC _) ?_;intro w5 B5 g5))
   refine de rfl B5 rfl underlying239 (by show _=some 4;kernel_rfl) rfl ?_
   exact ⟨rfl,by have:=FR.o.away g5 oM;exact this.out⟩
def i4 (k:IntKind) (l:Nat → Int):Array Value:=#[.int k (l 0),.int k (l 1),.int k (l 2),.int k (l 3)]
theorem uh (k:IntKind) (f:Nat → Int) (i:Nat) (h:i < 4):(i4 k f)[i]?=some (.int k (f i)):=by
 match i,h with
 | 0,_=>rfl
 | 1,_=>rfl
 | 2,_=>rfl
 | 3,_=>rfl
theorem qS (k:IntKind) (f:Nat → Int):(i4 k f).all (·.oneCell')=true:=by rw [← Array.all_toList];rfl
theorem tL (kd:IntKind) (f g:Nat → Int) (k:Nat) (h:k < 4) (hg:∀ i,i < 4 → i ≠ k → g i=f i):(i4 kd f).setIfInBounds k (.int kd (g k))=i4 kd g:=by
 unfold i4
 match k,h with
 | 0,_=>rw [hg 1 oM oM,hg 2 oM oM,hg 3 oM oM];rfl
 | 1,_=>rw [hg 0 oM oM,hg 2 oM oM,hg 3 oM oM];rfl
 | 2,_=>rw [hg 0 oM oM,hg 1 oM oM,hg 3 oM oM];rfl
 | 3,_=>rw [hg 0 oM oM,hg 1 oM oM,hg 2 oM oM];rfl
def upW (f g:Nat → Fx.Wd) (k:Nat):Nat → Fx.Wd:=fun i=>if i < k then f i else g i
theorem jX (f g:Nat → Fx.Wd) (k:Nat) (h:k < 4):(c4 (upW f g k)).setIfInBounds k (cv (f k))=c4 (upW f g (k+1)):=by
 have:=qD (upW f g k) (upW f g (k+1)) k h (fun i _ hi=>by unfold upW;by_cases c:i < k <;> simp [c] <;> omega)
 rwa [show upW f g (k+1) k=f k by simp [upW]] at this
theorem jW (f g:Nat → Fx.Wd):c4 (upW f g 4)=c4 f:=by unfold c4 upW;simp
theorem je (f g:Nat → Fx.Wd):upW f g 0=g:=by funext i;simp [upW]
theorem rR (f g:Nat → Fx.Wd) (k:Nat):upW f g k k=g k:=by simp [upW]
def upI (f g:Nat → Int) (k:Nat):Nat → Int:=fun i=>if i < k then f i else g i
theorem tD (kd:IntKind) (f g:Nat → Int) (k:Nat) (h:k < 4):(i4 kd (upI f g k)).setIfInBounds k (.int kd (f k))=i4 kd (upI f g (k+1)):=by
 have:=tL kd (upI f g k) (upI f g (k+1)) k h (fun i _ hi=>by unfold upI;by_cases c:i < k <;> simp [c] <;> omega)
 rwa [show upI f g (k+1) k=f k by simp [upI]] at this
theorem tC (kd:IntKind) (f g:Nat → Int):i4 kd (upI f g 4)=i4 kd f:=by unfold i4 upI;simp
theorem mW (f g:Nat → Int):upI f g 0=g:=by funext i;simp [upI]
theorem jp (l:Nat → Int) (B:Nat) (w:World) (hl:∀ i,i < 4 → (l i).natAbs≤B) (hB:B < 2 ^ 50) :
  Calls prog 187 #[.agg (i4 .i16 l)] w fun e w'=>e=.returned (.agg (c4 (ofW l)))∧Below w w w':=by
 have FR:=zW w
 obtain ⟨w1,w2,w3,yw1,yw2,yw3,_,_,_,BA,BO,BC,yk3⟩:=bk3 w #[.int .i16 (l 0),.int .i16 (l 1),.int .i16 (l 2),.int .i16 (l 3)] 244 #[.complex .f64 0 0,.complex .f64 0 0,.complex .f64 0 0,.complex .f64 0 0] 239 #[.complex .f64 0 0,.complex .f64 0 0,.complex .f64 0 0,.complex .f64 0 0] 239
 replace FR:=zF yk3 FR
 clear yk3
 have SU:=zH (fun w=>mR (inW l) rightW (fun i=>(l i,0)) (0,-1) B w (fun i hi=>(in_ok hl hB i hi).1) cd_right (.inr rfl) (fun i hi=>(in_ok hl hB i hi).2) hB)
 clear hl hB
 have c0:w3.cell? ⟨w.heap.size,0,none⟩=some (.int .i16 (l 0)):=BA.o.cell 0
 have c1:w3.cell? ⟨w.heap.size,1,none⟩=some (.int .i16 (l 1)):=BA.o.cell 1
 have c2:w3.cell? ⟨w.heap.size,2,none⟩=some (.int .i16 (l 2)):=BA.o.cell 2
 have c3:w3.cell? ⟨w.heap.size,3,none⟩=some (.int .i16 (l 3)):=BA.o.cell 3
 unfold i4
 go_in
 go_wp2_with fail
 have l1:=zL yw1
 have l2:=zL yw2
 clear yw1 yw2 yw3 c0 c1 c2 c3
 replace BC:=zH (show Blk w3 w2.heap.size 239 (c4 (upW (inW l) (fun _=>(0,0)) 0)) by rw [je];exact BC.o)
 obtain ⟨g0,e0⟩:∃ n,w.heap.size=n:=⟨_,rfl⟩
 obtain ⟨g1,e1⟩:∃ n,w1.heap.size=n:=⟨_,rfl⟩
 obtain ⟨g2,e2⟩:∃ n,w2.heap.size=n:=⟨_,rfl⟩
 rw [e0,e1] at l1
 rw [e1,e2] at l2
 rw [e1] at BO
 rw [e2] at BC
 rw [e0,e1,e2]
 clear BA
 go_loopw [7] (fun i wr=>∃ k:Nat,k≤4∧i=.int .i64 k∧Far w wr∧Blk wr g1 239 #[.complex .f64 0 0,.complex .f64 0 0,.complex .f64 0 0,.complex .f64 0 0]∧Blk wr g2 239 (c4 (upW (inW l) (fun _=>(0,0)) k))) (fun i _=>4 - (intOf i).toNat)
 case atStart=>exact ⟨0,zl _,rfl,FR.o,BO.o,BC.o⟩
 case round =>
  obtain ⟨k,hk,rfl,hf,hbo,hbc⟩:=hrel
  clear FR BO BC
  have FR:=zH hf
  have BO:=zH hbo
  have BC:=zH hbc
  clear hf hbo hbc
  by_cases hlt:k < 4
  ·have p1:(k:Int) < 4:=oM
   have hir:=zH (fun w=>iS (P:=prog) w 244 224 _ _ _ _ _ underlying244 kM (by simp [isAgg,run_underlying underlying224]) k hlt (uh .i16 l k hlt))
   have SS:=zH (jX (inW l) (fun _=>(0,0)) k hlt)
   go_wp2_with (first|simp only [hir.out]|(refine wpList_store_one rfl 238 (.tmp 15) (.tmp 14) rfl g2 k (cv (inW l k)) rfl rfl rfl rfl _ (c4 (upW (inW l) (fun _=>(0,0)) k)) (c4 (upW (inW l) (fun _=>(0,0)) (k+1))) BC.o (by simp [c4];omega) kM (by rw [← SS.o];exact fe _ _ _ (by simp [c4];omega)) ?_;intro w5 B5 g5))
   exact ⟨⟨k+1,by omega,by go_num,FR.o.away g5 oM,BO.o.away g5 (.inl oM),B5⟩,by simp [intOf];omega⟩
  ·obtain rfl:k=4:=oM
   have BC:=zH (show Blk wr g2 239 (c4 (inW l)) by rw [← jW (inW l) (fun _=>(0,0))];exact BC.o)
   go_wp2_with (first|(refine wpList_load_blk rfl 239 (.tmp 3) rfl g2 0 rfl _ (c4 (inW l)) (c4 (inW l)) _ BC.o underlying239 rfl (by show _=some 4;kernel_rfl) rfl ?_))
   refine qM (SU.o _) fun w4 hb=>?_
   obtain ⟨FR,BO⟩:=uz2 hb FR BO
   clear hb
   go_wp2_with (first|(refine wpList_store_all rfl 239 (.tmp 2) (.tmp 18) rfl g1 (c4 (ofW l)) rfl rfl _ _ BO.o rfl (by show _=some 4;kernel_rfl) (gC _) ?_;intro w5 B5 g5))
   refine de rfl B5 rfl underlying239 (by show _=some 4;kernel_rfl) rfl ?_
   exact ⟨rfl,by have:=FR.o.away g5 oM;exact this.out⟩
theorem kL (f g:Nat → Fx.Wd) (w:World) (hv:∀ i,i < 4 → cMulBits (f i).1 (f i).2 (g i).1 (g i).2=some ((timesW f g i).1,(timesW f g i).2)) :
  Calls prog 186 #[.agg (c4 f),.agg (c4 g)] w fun e w'=>e=.returned (.agg (c4 (timesW f g)))∧Below w w w':=by
 have OP:=zH (fun k hk t w=>run_complex_mul (P:=prog) w t _ _ _ _ _ _ (hv k hk))
 have FR:=zW w
 obtain ⟨w1,w2,w3,yw1,yw2,yw3,_,_,_,BA,BB,BC,yk3⟩:=bk3 w #[.complex .f64 (f 0).1 (f 0).2,.complex .f64 (f 1).1 (f 1).2,.complex .f64 (f 2).1 (f 2).2,.complex .f64 (f 3).1 (f 3).2] 239 #[.complex .f64 (g 0).1 (g 0).2,.complex .f64 (g 1).1 (g 1).2,.complex .f64 (g 2).1 (g 2).2,.complex .f64 (g 3).1 (g 3).2] 239 #[.complex .f64 0 0,.complex .f64 0 0,.complex .f64 0 0,.complex .f64 0 0] 239
 replace FR:=zF yk3 FR
 clear yk3
 clear hv
 unfold c4 cv
 go_in
 go_wp2_with fail
 have l1:=zL yw1
 have l2:=zL yw2
 clear yw1 yw2 yw3
 replace BA:=zH (show Blk w3 w.heap.size 239 (c4 (upW (timesW f g) f 0)) by rw [je];exact BA.o)
 replace BB:=zH (show Blk w3 w1.heap.size 239 (c4 g) from BB.o)
 obtain ⟨g0,e0⟩:∃ n,w.heap.size=n:=⟨_,rfl⟩
 obtain ⟨g1,e1⟩:∃ n,w1.heap.size=n:=⟨_,rfl⟩
 obtain ⟨g2,e2⟩:∃ n,w2.heap.size=n:=⟨_,rfl⟩
 rw [e0,e1] at l1
 rw [e1,e2] at l2
 rw [e0] at BA
 rw [e1] at BB
 rw [e2] at BC
 rw [e0,e1,e2]
 go_loopw [6] (fun i wr=>∃ k:Nat,k≤4∧i=.int .i64 k∧Far w wr∧Blk wr g0 239 (c4 (upW (timesW f g) f k))∧Blk wr g1 239 (c4 g)∧Blk wr g2 239 #[.complex .f64 0 0,.complex .f64 0 0,.complex .f64 0 0,.complex .f64 0 0]) (fun i _=>4 - (intOf i).toNat)
 case atStart=>exact ⟨0,zl _,rfl,FR.o,BA.o,BB.o,BC.o⟩
 case round =>
  obtain ⟨k,hk,rfl,hf,hba,hbb,hbc⟩:=hrel
  clear FR BA BB BC
  have FR:=zH hf
  have BA:=zH hba
  have BB:=zH hbb
  have BC:=zH hbc
  clear hf hba hbb hbc
  by_cases hlt:k < 4
  ·have p1:(k:Int) < 4:=oM
   have hop:=OP.o k hlt
   have ca:=BA.o.draw.cell k
   rw [gI _ _ hlt,rR] at ca
   have cb:=BB.o.draw.cell k
   rw [gI _ _ hlt] at cb
   unfold cv at ca cb
   have SS:=zH (jX (timesW f g) f k hlt)
   go_wp2_with fail
   refine aJ (fun w'=>w'.cell? ⟨g0,k,none⟩=some (.complex .f64 (f k).1 (f k).2)∧w'.cell? ⟨g1,k,none⟩=some (.complex .f64 (g k).1 (g k).2)∧w'=wr.drew) 7 kM ?_ (fun hS=>?_)
   ·exact ⟨ca,cb,rfl⟩
   refine kT' 0 hS ?_
   refine kT' 1 hS ?_
   refine kT' 2 hS ?_
   refine kT' 3 hS ?_
   refine kT' 4 hS ?_
   refine kT' 5 hS ?_
   refine kT' 6 hS ?_
   refine wpAnyT_tail _ _ rfl rfl kM ?_
   clear hS ca cb
   go_wp2_with (refine wpList_store_one rfl 238 (.tmp 16) (.tmp 15) rfl g0 k (cv (timesW f g k)) rfl rfl rfl rfl _ (c4 (upW (timesW f g) f k)) (c4 (upW (timesW f g) f (k+1))) BA.o.draw (by simp [c4];omega) kM (by rw [← SS.o];exact fe _ _ _ (by simp [c4];omega)) ?_;intro w5 B5 g5)
   exact ⟨⟨k+1,by omega,by go_num,FR.o.draw.away g5 oM,B5,BB.o.draw.away g5 (.inr oM),BC.o.draw.away g5 (.inr oM)⟩,by simp [intOf];omega⟩
  ·obtain rfl:k=4:=oM
   have BA:=zH (show Blk wr g0 239 (c4 (timesW f g)) by rw [← jW (timesW f g) f];exact BA.o)
   go_wp2_with (first|(refine wpList_load_blk rfl 239 (.tmp 2) rfl g0 0 rfl _ (c4 (timesW f g)) (c4 (timesW f g)) _ BA.o underlying239 rfl (by show _=some 4;kernel_rfl) rfl ?_)|(refine wpList_store_all rfl 239 (.tmp 4) (.tmp 18) rfl g2 (c4 (timesW f g)) rfl rfl _ _ BC.o rfl (by show _=some 4;kernel_rfl) (gC _) ?_;intro w5 B5 g5))
   refine de rfl B5 rfl underlying239 (by show _=some 4;kernel_rfl) rfl ?_
   exact ⟨rfl,by have:=FR.o.away g5 oM;exact this.out⟩
theorem lY (f g:Nat → Fx.Wd) (w:World) (hv:∀ i,i < 4 → cSumBits .add .f64 (f i).1 (f i).2 (g i).1 (g i).2=some ((plusW f g i).1,(plusW f g i).2)) :
  Calls prog 185 #[.agg (c4 f),.agg (c4 g)] w fun e w'=>e=.returned (.agg (c4 (plusW f g)))∧Below w w w':=by
 have OP:=zH (fun k hk t w=>run_complex_sum (P:=prog) w .add (.inl rfl) t .f64 _ _ _ _ _ _ (hv k hk))
 have FR:=zW w
 obtain ⟨w1,w2,w3,yw1,yw2,yw3,_,_,_,BA,BB,BC,yk3⟩:=bk3 w #[.complex .f64 (f 0).1 (f 0).2,.complex .f64 (f 1).1 (f 1).2,.complex .f64 (f 2).1 (f 2).2,.complex .f64 (f 3).1 (f 3).2] 239 #[.complex .f64 (g 0).1 (g 0).2,.complex .f64 (g 1).1 (g 1).2,.complex .f64 (g 2).1 (g 2).2,.complex .f64 (g 3).1 (g 3).2] 239 #[.complex .f64 0 0,.complex .f64 0 0,.complex .f64 0 0,.complex .f64 0 0] 239
 replace FR:=zF yk3 FR
 clear yk3
 clear hv
 unfold c4 cv
 go_in
 go_wp2_with fail
 have l1:=zL yw1
 have l2:=zL yw2
 clear yw1 yw2 yw3
 replace BA:=zH (show Blk w3 w.heap.size 239 (c4 (upW (plusW f g) f 0)) by rw [je];exact BA.o)
 replace BB:=zH (show Blk w3 w1.heap.size 239 (c4 g) from BB.o)
 obtain ⟨g0,e0⟩:∃ n,w.heap.size=n:=⟨_,rfl⟩
 obtain ⟨g1,e1⟩:∃ n,w1.heap.size=n:=⟨_,rfl⟩
 obtain ⟨g2,e2⟩:∃ n,w2.heap.size=n:=⟨_,rfl⟩
 rw [e0,e1] at l1
 rw [e1,e2] at l2
 rw [e0] at BA
 rw [e1] at BB
 rw [e2] at BC
 rw [e0,e1,e2]
 go_loopw [6] (fun i wr=>∃ k:Nat,k≤4∧i=.int .i64 k∧Far w wr∧Blk wr g0 239 (c4 (upW (plusW f g) f k))∧Blk wr g1 239 (c4 g)∧Blk wr g2 239 #[.complex .f64 0 0,.complex .f64 0 0,.complex .f64 0 0,.complex .f64 0 0]) (fun i _=>4 - (intOf i).toNat)
 case atStart=>exact ⟨0,zl _,rfl,FR.o,BA.o,BB.o,BC.o⟩
 case round =>
  obtain ⟨k,hk,rfl,hf,hba,hbb,hbc⟩:=hrel
  clear FR BA BB BC
  have FR:=zH hf
  have BA:=zH hba
  have BB:=zH hbb
  have BC:=zH hbc
  clear hf hba hbb hbc
  by_cases hlt:k < 4
  ·have p1:(k:Int) < 4:=oM
   have hop:=OP.o k hlt
   have ca:=BA.o.draw.cell k
   rw [gI _ _ hlt,rR] at ca
   have cb:=BB.o.draw.cell k
   rw [gI _ _ hlt] at cb
   unfold cv at ca cb
   have SS:=zH (jX (plusW f g) f k hlt)
   go_wp2_with fail
   refine aJ (fun w'=>w'.cell? ⟨g0,k,none⟩=some (.complex .f64 (f k).1 (f k).2)∧w'.cell? ⟨g1,k,none⟩=some (.complex .f64 (g k).1 (g k).2)∧w'=wr.drew) 7 kM ?_ (fun hS=>?_)
   ·exact ⟨ca,cb,rfl⟩
   refine kT' 0 hS ?_
   refine kT' 1 hS ?_
   refine kT' 2 hS ?_
   refine kT' 3 hS ?_
   refine kT' 4 hS ?_
   refine kT' 5 hS ?_
   refine kT' 6 hS ?_
   refine wpAnyT_tail _ _ rfl rfl kM ?_
   clear hS ca cb
   go_wp2_with (refine wpList_store_one rfl 238 (.tmp 16) (.tmp 15) rfl g0 k (cv (plusW f g k)) rfl rfl rfl rfl _ (c4 (upW (plusW f g) f k)) (c4 (upW (plusW f g) f (k+1))) BA.o.draw (by simp [c4];omega) kM (by rw [← SS.o];exact fe _ _ _ (by simp [c4];omega)) ?_;intro w5 B5 g5)
   exact ⟨⟨k+1,by omega,by go_num,FR.o.draw.away g5 oM,B5,BB.o.draw.away g5 (.inr oM),BC.o.draw.away g5 (.inr oM)⟩,by simp [intOf];omega⟩
  ·obtain rfl:k=4:=oM
   have BA:=zH (show Blk wr g0 239 (c4 (plusW f g)) by rw [← jW (plusW f g) f];exact BA.o)
   go_wp2_with (first|(refine wpList_load_blk rfl 239 (.tmp 2) rfl g0 0 rfl _ (c4 (plusW f g)) (c4 (plusW f g)) _ BA.o underlying239 rfl (by show _=some 4;kernel_rfl) rfl ?_)|(refine wpList_store_all rfl 239 (.tmp 4) (.tmp 18) rfl g2 (c4 (plusW f g)) rfl rfl _ _ BC.o rfl (by show _=some 4;kernel_rfl) (gC _) ?_;intro w5 B5 g5))
   refine de rfl B5 rfl underlying239 (by show _=some 4;kernel_rfl) rfl ?_
   exact ⟨rfl,by have:=FR.o.away g5 oM;exact this.out⟩
def bU (z:Nat → Int × Int):Nat → Int:=fun i=>(sumsZ (0,1) z i).1.tdiv 4
theorem lX (f:Nat → Fx.Wd) (z:Nat → Int × Int) (B:Nat) (w:World) (hx:∀ i,i < 4 → Cd (f i) (z i)) (hz:∀ i,i < 4 → Cb (z i) B) (hB:B < 2 ^ 50) :
  Calls prog 194 #[.agg (c4 f)] w fun e w'=>e=.returned (.agg (i4 .i64 (bU z)))∧Below w w w':=by
 have FR:=zW w
 obtain ⟨w1,w2,w3,yw1,yw2,yw3,_,_,_,BA,BO,BC,yk3⟩:=bk3 w #[.complex .f64 (f 0).1 (f 0).2,.complex .f64 (f 1).1 (f 1).2,.complex .f64 (f 2).1 (f 2).2,.complex .f64 (f 3).1 (f 3).2] 239 #[.int .i64 0,.int .i64 0,.int .i64 0,.int .i64 0] 254 #[.int .i64 0,.int .i64 0,.int .i64 0,.int .i64 0] 254
 replace FR:=zF yk3 FR
 clear yk3
 have SU:=zH (fun w=>mR f leftW z (0,1) B w hx cd_left (.inl rfl) hz hB)
 have OK:=zH (fun k=>sums_ok cd_left (.inl rfl) hx hz hB k)
 clear hx hz
 have c0:w3.cell? ⟨w.heap.size,0,none⟩=some (.complex .f64 (f 0).1 (f 0).2):=BA.o.cell 0
 have c1:w3.cell? ⟨w.heap.size,1,none⟩=some (.complex .f64 (f 1).1 (f 1).2):=BA.o.cell 1
 have c2:w3.cell? ⟨w.heap.size,2,none⟩=some (.complex .f64 (f 2).1 (f 2).2):=BA.o.cell 2
 have c3:w3.cell? ⟨w.heap.size,3,none⟩=some (.complex .f64 (f 3).1 (f 3).2):=BA.o.cell 3
 unfold c4 cv
 go_in
 go_wp2_with fail
 refine qM (SU.o _) fun w4 hb=>?_
 have l1:=zL yw1
 have l2:=zL yw2
 clear yw1 yw2 yw3 c0 c1 c2 c3
 obtain ⟨FR,BO,BC⟩:=uz3 hb FR BO BC
 clear hb
 replace BC:=zH (show Blk w4 w2.heap.size 254 (i4 .i64 (upI (bU z) (fun _=>0) 0)) by rw [mW];exact BC.o)
 obtain ⟨g0,e0⟩:∃ n,w.heap.size=n:=⟨_,rfl⟩
 obtain ⟨g1,e1⟩:∃ n,w1.heap.size=n:=⟨_,rfl⟩
 obtain ⟨g2,e2⟩:∃ n,w2.heap.size=n:=⟨_,rfl⟩
 rw [e0,e1] at l1
 rw [e1,e2] at l2
 rw [e1] at BO
 rw [e2] at BC
 rw [e0,e1,e2]
 clear BA
 unfold c4 cv
 go_wp2
 go_loopw [8] (fun i wr=>∃ k:Nat,k≤4∧i=.int .i64 k∧Far w wr∧Blk wr g1 254 #[.int .i64 0,.int .i64 0,.int .i64 0,.int .i64 0]∧Blk wr g2 254 (i4 .i64 (upI (bU z) (fun _=>0) k))) (fun i _=>4 - (intOf i).toNat)
 case atStart=>exact ⟨0,zl _,rfl,FR.o,BO.o,BC.o⟩
 case round =>
  obtain ⟨k,hk,rfl,hf,hbo,hbc⟩:=hrel
  clear FR BO BC
  have FR:=zH hf
  have BO:=zH hbo
  have BC:=zH hbc
  clear hf hbo hbc
  by_cases hlt:k < 4
  ·have p1:(k:Int) < 4:=oM
   have hix:=gI (sumsW leftW f) k hlt
   unfold c4 cv at hix
   have hir:=zH (fun w=>io (P:=prog) w 239 238 _ _ _ _ _ underlying239 kM underlying238 k hlt hix)
   clear hix
   obtain ⟨q1,q2⟩:=OK.o k
   obtain ⟨re,hre⟩:∃ x,(sumsZ (0,1) z k).1=x:=⟨_,rfl⟩
   have q3:=q1.1
   have q4:=q2.1
   rw [hre] at q3 q4
   have hbk:bU z k=re.tdiv 4:=by unfold bU;rw [hre]
   have CX:=zH (fun w=>run_convert_float_int (P:=prog) w 252 2 .f64 .i64 _ _ (by rw [underlying252];rfl) underlying2 (q3.int oM oM))
   have SS:=zH (tD .i64 (bU z) (fun _=>0) k hlt)
   clear q1 q2 q3 hre
   go_wp2_with (first|simp only [hir.out]|simp only [CX.o]|(refine wpList_store_one rfl 2 (.tmp 17) (.tmp 16) rfl g2 k (.int .i64 (bU z k)) rfl (by rw [hbk];rfl) rfl rfl _ (i4 .i64 (upI (bU z) (fun _=>0) k)) (i4 .i64 (upI (bU z) (fun _=>0) (k+1))) BC.o (by simp [i4];omega) kM (by rw [← SS.o];exact fe _ _ _ (by simp [i4];omega)) ?_;intro w5 B5 g5))
   exact ⟨⟨k+1,by omega,by go_num,FR.o.away g5 oM,BO.o.away g5 (.inl oM),B5⟩,by simp [intOf];omega⟩
  ·obtain rfl:k=4:=oM
   have BC:=zH (show Blk wr g2 254 (i4 .i64 (bU z)) by rw [← tC .i64 (bU z) (fun _=>0)];exact BC.o)
   go_wp2_with (first|(refine wpList_load_blk rfl 254 (.tmp 3) rfl g2 0 rfl _ (i4 .i64 (bU z)) (i4 .i64 (bU z)) _ BC.o underlying254 rfl (by show _=some 4;kernel_rfl) rfl ?_)|(refine wpList_store_all rfl 254 (.tmp 2) (.tmp 19) rfl g1 (i4 .i64 (bU z)) rfl rfl _ _ BO.o rfl (by show _=some 4;kernel_rfl) (qS _ _) ?_;intro w5 B5 g5))
   refine de rfl B5 rfl underlying254 (by show _=some 4;kernel_rfl) rfl ?_
   exact ⟨rfl,by have:=FR.o.away g5 oM;exact this.out⟩
def w3Z (a b c:Int):Nat → Int:=fun i=>match i with|0=>c|1=>b|2=>a|_=>0
theorem jO (a b c:Int) (w:World) (ha:InK .i8 a) (hb:InK .i8 b) (hc:InK .i8 c) :
  Calls prog 183 #[.agg #[.int .i8 a,.int .i8 b,.int .i8 c]] w fun e w'=>e=.returned (.agg (c4 (ofW (w3Z a b c))))∧Below w w w':=by
 have FR:=zW w
 obtain ⟨w1,w2,yw1,yw2,_,_,BA,BO,yk2⟩:=bk2 w #[.int .i8 a,.int .i8 b,.int .i8 c] 215 #[.complex .f64 0 0,.complex .f64 0 0,.complex .f64 0 0,.complex .f64 0 0] 239
 replace FR:=zF yk2 FR
 clear yk2
 rw [aT] at ha hb hc
 obtain ⟨a1,a2⟩:=ha
 obtain ⟨b1,b2⟩:=hb
 obtain ⟨d1,d2⟩:=hc
 have OF:=zH (fun w=>jp (w3Z a b c) 128 w (fun i hi=>by unfold w3Z;split <;> omega) dM)
 obtain ⟨c0,c1,c2⟩:=uc3 BA 0 1 2
 go_in
 go_wp2_with fail
 refine qM (OF.o _) fun w4 hb=>?_
 have l1:=zL yw1
 clear yw1 yw2 c0 c1 c2
 obtain ⟨FR,BO⟩:=uz2 hb FR BO
 clear hb
 go_wp2_with (first|(refine wpList_store_all rfl 239 (.tmp 2) (.tmp 13) rfl w1.heap.size (c4 (ofW (w3Z a b c))) rfl rfl _ _ BO.o rfl (by show _=some 4;kernel_rfl) (gC _) ?_;intro w5 B5 g5))
 refine de rfl B5 rfl underlying239 (by show _=some 4;kernel_rfl) rfl ?_
 exact ⟨rfl,by have:=FR.o.away g5 oM;exact this.out⟩
theorem ll (f:Nat → Fx.Wd) (z:Nat → Int × Int) (B:Nat) (w:World) (hx:∀ i,i < 4 → Cd (f i) (z i)) (hz:∀ i,i < 4 → Cb (z i) B) (hB:B < 2 ^ 50) :
  Calls prog 189 #[.agg (c4 f)] w fun e w'=>e=.returned (.agg #[.int .i64 (bU z 2),.int .i64 (bU z 3)])∧Below w w w':=by
 have FR:=zW w
 obtain ⟨w1,w2,yw1,yw2,_,_,BA,BO,yk2⟩:=bk2 w #[.complex .f64 (f 0).1 (f 0).2,.complex .f64 (f 1).1 (f 1).2,.complex .f64 (f 2).1 (f 2).2,.complex .f64 (f 3).1 (f 3).2] 239 #[.int .i64 0,.int .i64 0] 246
 replace FR:=zF yk2 FR
 clear yk2
 have BK:=zH (fun w=>lX f z B w hx hz hB)
 clear hx hz hB
 have c0:w2.cell? ⟨w.heap.size,0,none⟩=some (.complex .f64 (f 0).1 (f 0).2):=BA.o.cell 0
 have c1:w2.cell? ⟨w.heap.size,1,none⟩=some (.complex .f64 (f 1).1 (f 1).2):=BA.o.cell 1
 have c2:w2.cell? ⟨w.heap.size,2,none⟩=some (.complex .f64 (f 2).1 (f 2).2):=BA.o.cell 2
 have c3:w2.cell? ⟨w.heap.size,3,none⟩=some (.complex .f64 (f 3).1 (f 3).2):=BA.o.cell 3
 unfold c4 cv
 go_in
 go_wp2_with fail
 refine qM (BK.o _) fun w4 hb=>?_
 have l1:=zL yw1
 have l2:=zL yw2
 have l3:=hb.size
 clear yw1 yw2 c0 c1 c2 c3
 obtain ⟨FR,BO⟩:=uz2 hb FR BO
 clear hb
 unfold i4
 go_wp2_with (refine wpList_store_all rfl 246 (.tmp 2) (.tmp 10) rfl w1.heap.size #[.int .i64 (bU z 2),.int .i64 (bU z 3)] rfl rfl _ _ (BO.o.past _) rfl kM (by rw [← Array.all_toList];rfl) ?_;intro w5 B5 g5)
 refine de rfl B5 rfl underlying246 kM rfl ?_
 refine ⟨rfl,?_⟩
 have h5:Below w w (w4.alloc (.cells #[.int .i64 (bU z 0),.int .i64 (bU z 1),.int .i64 (bU z 2),.int .i64 (bU z 3)] 254)):=FR.u.alloc oM _
 exact h5.grown g5 (by simp;omega) (fun j hj=>by have:=sI hj;omega)
end Go.Proofs.YtmihnoagagbgaaaGreat
namespace Go.Proofs.YtmihnoagagbgaaaGreat
open Go.RowKit Go.ChangeShapes Go.WideShapes Tryz
set_option maxRecDepth 100000
set_option maxHeartbeats 16000000
theorem Sl.inAll {k:IntKind} {w:World} {S:Nat → Prop} {A:QA} {n cap:Nat} {l:List Int} (h:Sl (aa k) w S A n cap l):∀ x ∈ l,InK k x:=by
 intro x hx
 obtain ⟨j,hj,rfl⟩:=List.getElem_of_mem hx
 have:=h.allK j
 rwa [gD,List.getElem?_eq_getElem hj] at this
section
variable {P:Program} {ops:Array Oper} {rest:List Oper} {o:Oper} {a:Act} {Q:Exit → Act → World → Prop} {T E:TypeId} {z:Value} {bytes base n m c:Nat} {v:Value} {k:IntKind} {l l2:List Int} {A:QA} {S:Nat → Prop}
theorem ef {W:World} (hgd:o.guard=none) (s x:Operand) (ho:o.op=.call { callee:=.builtin .append,args:=#[s,x],argTypes:=#[T,T] }) (ei:EI P T E z 1 bytes)
  (hs:a.eval s=v) (own:Own (aa k) W (fun _=>False) base E v n l) (hx:a.eval x=.slice A m c) (sl:Sl (aa k) W S A m c l2)
  (h63:n+m≤maxLen) (hbytes:(n+m)*bytes≤140737488355328) (hbase:base≤W.heap.size)
  (h:∀ v' w',Own (aa k) w' (fun _=>False) base E v' (n+m) (l ++ l2) → W.grownBy w' v.ownBlock → (v'.ownBlock=v.ownBlock ∨ v'.ownBlock=some W.heap.size) → wpList P ops Q rest (a.put o.dst v') w') :
  wpList P ops Q (o :: rest) a W:=by
 obtain ⟨i,hi,hz0,hz1,hz2⟩:=info_parts ei.hi
 obtain ⟨vs,h1,h2⟩:=own.out
 have hl2:=sl.n_eq
 cases A with
 | none =>
  have hc:=sl.nil_ rfl
  have hm:=sl.cap_le
  obtain rfl:c=0:=hc
  obtain rfl:m=0:=oM
  obtain rfl:l2=[]:=List.length_eq_zero_iff.1 hl2
  refine wpList_append_own_none hgd s x T ho base E i 1 ei.ht hi v n vs hs h1 hx ?_
  refine h v W ?_ ⟨rfl,rfl,rfl,lR _,fun _ _ _=>rfl⟩ (.inl rfl)
  rw [List.append_nil]
  exact own
 | some ad =>
  have hnews:∀ j u,(l2.map (Value.int k))[j]?=some u → W.cell? (ad.add j)=some u:=by
   intro j u hu
   rw [List.getElem?_map] at hu
   have hj:j < m:=by
    rcases Nat.lt_or_ge j m with h|h
    ·exact h
    ·rw [List.getElem?_eq_none oM] at hu;cases hu
   obtain ⟨b,off,hA,_,_,hcell,_⟩:=sl.int_at j hj
   cases hA
   have hadd:(⟨b,off,none⟩:Addr).add j=⟨b,off+j,none⟩:=by unfold Addr.add;split <;> simp_all
   rw [hadd,hcell,gD]
   rw [List.getElem?_eq_getElem oM] at hu ⊢
   simpa using hu
  obtain ⟨v',w',hrun,k1,k2,_,k3⟩:=run_append_own_at (P:=P) W base T o.type E i z 1 bytes ei.ht hi hz0 hz1 hz2 ei.hz ei.hp v n vs h1 ad m c (l2.map (Value.int k))
   (by rw [List.length_map,hl2,Nat.mul_one]) hnews (by intro u hu;obtain ⟨y,_,rfl⟩:=List.mem_map.1 hu;rfl) h63 hbytes hbase
  refine wpList_plain hgd fun K hK=>?_
  unfold Oper.wp execOp
  simp only [ho,resolve,invoke,builtin,Sem.run_bind,Sem.run_pure,Result.andThen_ok,List.map_toArray,List.map_cons,List.map_nil,hs,hx,hrun]
  refine hK _ _ (h v' w' ⟨vs ++ l2.map (Value.int k),k1,?_⟩ k2 k3)
  exact (h2.keep fun b hb=>hb.elim).append (RowsOf.ints sl.inAll)
end
end Go.Proofs.YtmihnoagagbgaaaGreat
namespace Go.Proofs.YtmihnoagagbgaaaGreat
open Go Tryz
set_option maxRecDepth 100000
set_option maxHeartbeats 16000000
theorem eh {P:Program} {a:Act} {w:World} {Q:Exit → Act → World → Prop} {c rest:Code} (l:Nat) (hf:findLabel c l=some rest)
  (first:c.wp P (Exit.jump l (fun a' w'=>rest.wp P (Exit.noGoto Q) a' w') Q) a w):(Code.scope c).wp P Q a w:=by
 refine wp_scope_jumps l _ (fun _ _=>0) hf first fun a' w' h=>?_
 intro b k cs
 obtain ⟨e,a₁,w₁,hq,harr⟩:=h b k cs
 refine ⟨e,a₁,w₁,?_,harr⟩
 cases e with
 | goto l'=>exact hq.elim
 | normal=>exact hq
 | exit id=>exact hq
 | ret=>exact hq
 | panic ch=>exact hq
 | outgrown=>exact hq
end Go.Proofs.YtmihnoagagbgaaaGreat
