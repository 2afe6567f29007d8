/-
  Whole numbers below 2^53 as 64-bit floats: what bits stand for them; sums, differences, products that stay below are exact; complex numbers of such parts.
  Four numbers as four sums of them, each turned by quarters (layer 14), on the bits: what the bits stand for; what goes back is what two rows make, round by round.
-/
import Derived.Test.YtjkmjpjknmghlaaGreatJ00
set_option linter.unusedVariables false
set_option linter.unusedSimpArgs false
namespace Go.Proofs.YtjkmjpjknmghlaaGreat.Fx
open Ieee
def Sd:Datum → Int → Prop
 | .number s m p,n=>m*2 ^ p.toNat=n.natAbs*2 ^ (-p).toNat∧(n ≠ 0 → s=decide (n < 0))
 | _,_=>False
theorem two_pos (k:Nat):0 < 2 ^ k:=Nat.two_pow_pos k
theorem Sd.zero {s:Bool} {m:Nat} {p:Int} (h:Sd (.number s m p) 0):m=0:=by
 have h1:=h.1
 have:=two_pos p.toNat
 rw [show (0:Int).natAbs=0 from rfl,Nat.zero_mul] at h1
 rcases Nat.mul_eq_zero.1 h1 with h|h <;> omega
theorem log_mul (m k:Nat) (h:m ≠ 0):(m*2 ^ k).log2=m.log2+k:=by
 have h1:=Nat.log2_self_le h
 have h2:=@Nat.lt_log2_self m
 have hp:=two_pos k
 have hne:m*2 ^ k ≠ 0:=Nat.mul_ne_zero h (by omega)
 apply Nat.le_antisymm
 ·apply Nat.le_of_lt_succ
  rw [Nat.log2_lt hne,show (m.log2+k).succ=(m.log2+1)+k by omega,Nat.pow_add]
  exact Nat.mul_lt_mul_of_pos_right h2 hp
 ·rw [Nat.le_log2 hne,Nat.pow_add]
  exact Nat.mul_le_mul_right _ h1
theorem cut_exact (way:Toward) (neg:Bool) (a d:Nat) (ha:a ≠ 0):way.cut neg (a*2 ^ d) d=a:=by
 have hl:(a*2 ^ d).log2=a.log2+d:=log_mul a d ha
 unfold Toward.cut
 rw [hl,Nat.min_eq_left (by omega),Nat.one_shiftLeft]
 simp only [Nat.mul_mod_left,Nat.mul_div_cancel _ (two_pos d)]
 have:=two_pos d
 cases way <;> simp <;> omega
theorem cut_zero (neg:Bool) (d:Nat) (way:Toward):way.cut neg 0 d=0:=by
 unfold Toward.cut
 simp only [Nat.zero_mod,Nat.zero_div]
 have h:∀ k,0 < 1 <<< k:=fun k=>by rw [Nat.one_shiftLeft];exact two_pos k
 have:=h (min d (Nat.log2 0+2))
 cases way <;> simp <;> omega
theorem word_read (s:Bool) (k e:Nat) (h1:2 ^ 52≤k) (h2:k < 2 ^ 53) (h3:e < 2000) :
  double.read (double.word s (min (e*double.binade+k) double.infRung))=.number s k (e - 1074):=by
 have hw:double.signWeight=2 ^ 63:=rfl
 have hb:double.binade=2 ^ 52:=rfl
 have hi:double.infRung=2047*2 ^ 52:=rfl
 have hl:double.leastPlace=-1074:=rfl
 have hm:min (e*double.binade+k) double.infRung=e*2 ^ 52+k:=by
  rw [hb,hi];omega
 rw [hm]
 have hlt:e*2 ^ 52+k < 2 ^ 63:=by omega
 have d1:(double.word s (e*2 ^ 52+k) / 2 ^ 63 % 2 == 1)=s:=by
  unfold Format.word
  rw [hw]
  cases s <;> simp <;> omega
 have d2:double.word s (e*2 ^ 52+k) % 2 ^ 63=e*2 ^ 52+k:=by
  unfold Format.word
  rw [hw]
  cases s <;> simp <;> omega
 unfold Format.read
 simp only [hw,hb,hi,hl,d1,d2]
 rw [if_neg (by omega),if_pos (by omega)]
 have e1:2 ^ 52+(e*2 ^ 52+k) % 2 ^ 52=k:=by omega
 have e2:(e*2 ^ 52+k) / 2 ^ 52 - 1=e:=by omega
 rw [e1,e2]
 congr 1
theorem Sd.write {d:Datum} {n:Int} (h:Sd d n) (hb:n.natAbs < 2 ^ 53):Sd (double.read (double.write d)) n:=by
 cases d with
 | infinity s=>exact h.elim
 | nan s t=>exact h.elim
 | number s m p =>
 show Sd (double.read (double.nearest s m p)) n
 by_cases hm:m=0
 ·subst hm
  have hn:n=0:=by
   have:=h.1
   have hp:=two_pos (-p).toNat
   rw [Nat.zero_mul] at this
   rcases Nat.mul_eq_zero.1 this.symm with h|h <;> omega
  subst hn
  unfold Format.nearest
  rw [if_pos rfl]
  have hz:double.read (double.word s 0)=.number s 0 (-1074):=by cases s <;> rfl
  rw [hz]
  refine ⟨?_,fun h=>absurd rfl h⟩
  rw [show (0:Int).natAbs=0 from rfl,Nat.zero_mul,Nat.zero_mul]
 ·have hn:n ≠ 0:=by
   rintro rfl
   exact hm h.zero
  obtain ⟨hv,hs⟩:=h
  have hN:n.natAbs ≠ 0:=by omega
  generalize hNe:n.natAbs=N at *
  have hlog:m.log2+p.toNat=N.log2+(-p).toNat:=by
   rw [← log_mul m _ hm,hv,log_mul N _ hN]
  have hL:N.log2 < 53:=(Nat.log2_lt hN).2 hb
  have hl:double.leastPlace=-1074:=rfl
  unfold Format.nearest
  rw [if_neg hm]
  have hlast:max (p+(m.log2:Int) - ((double.fractionBits:Nat):Int)) double.leastPlace=(N.log2:Int) - 52:=by
   rw [hl,show double.fractionBits=52 from rfl]
   omega
  simp only [hlast]
  have hk:Toward.even.cut s (m <<< (p - ((N.log2:Int) - 52)).toNat) (((N.log2:Int) - 52) - p).toNat=N*2 ^ (52 - N.log2):=by
   by_cases c:p≤(N.log2:Int) - 52
   ·have e1:(p - ((N.log2:Int) - 52)).toNat=0:=by omega
    have e2:p.toNat=0:=by omega
    rw [e2,Nat.pow_zero,Nat.mul_one] at hv
    rw [e1,Nat.shiftLeft_zero,hv,show (-p).toNat=(52 - N.log2)+(((N.log2:Int) - 52) - p).toNat by omega,Nat.pow_add,← Nat.mul_assoc]
    exact cut_exact _ _ _ _ (Nat.mul_ne_zero hN (by have:=two_pos (52 - N.log2);omega))
   ·have e1:(((N.log2:Int) - 52) - p).toNat=0:=by omega
    rw [e1,Nat.shiftLeft_eq]
    have:=cut_exact .even s (m*2 ^ (p - ((N.log2:Int) - 52)).toNat) 0 (Nat.mul_ne_zero hm (by have:=two_pos (p - ((N.log2:Int) - 52)).toNat;omega))
    rw [Nat.pow_zero,Nat.mul_one] at this
    rw [this]
    by_cases cp:0≤p
    ·rw [show (p - ((N.log2:Int) - 52)).toNat=p.toNat+(52 - N.log2) by omega,Nat.pow_add,← Nat.mul_assoc,hv,show (-p).toNat=0 by omega,Nat.pow_zero,Nat.mul_one]
    ·rw [show p.toNat=0 by omega,Nat.pow_zero,Nat.mul_one] at hv
     rw [hv,Nat.mul_assoc,← Nat.pow_add]
     congr 2
     omega
  rw [hk]
  have k1:2 ^ 52≤N*2 ^ (52 - N.log2):=by
   have:=Nat.log2_self_le hN
   have h2:=Nat.mul_le_mul_right (2 ^ (52 - N.log2)) this
   rw [← Nat.pow_add,show N.log2+(52 - N.log2)=52 by omega] at h2
   exact h2
  have k2:N*2 ^ (52 - N.log2) < 2 ^ 53:=by
   have:=@Nat.lt_log2_self N
   have h2:=Nat.mul_lt_mul_of_pos_right this (two_pos (52 - N.log2))
   rw [← Nat.pow_add,show N.log2+1+(52 - N.log2)=53 by omega] at h2
   exact h2
  have hd:(((N.log2:Int) - 52) - double.leastPlace).toNat=N.log2+1022:=by rw [hl];omega
  rw [hd,word_read s _ _ k1 k2 (by omega)]
  refine ⟨?_,hs⟩
  rw [hNe,show (((N.log2+1022:Nat):Int) - 1074).toNat=0 by omega,show (-(((N.log2+1022:Nat):Int) - 1074)).toNat=52 - N.log2 by omega,Nat.pow_zero,Nat.mul_one]
theorem Sd.opposite {d:Datum} {n:Int} (h:Sd d n):Sd d.opposite (-n):=by
 cases d with
 | infinity s=>exact h.elim
 | nan s t=>exact h.elim
 | number s m p =>
  refine ⟨by rw [Int.natAbs_neg];exact h.1,fun hn=>?_⟩
  have:=h.2 (by omega)
  rw [this]
  by_cases c:n < 0
  ·simp [c];omega
  ·simp [c];omega
theorem Sd.at_base {s:Bool} {m:Nat} {p:Int} {n:Int} (h:Sd (.number s m p) n) (b:Int) (hb:b≤p) :
  signed s m (p - b).toNat*2 ^ b.toNat=n*2 ^ (-b).toNat:=by
 have key:(m*2 ^ (p - b).toNat)*2 ^ b.toNat=n.natAbs*2 ^ (-b).toNat:=by
  have h1:=h.1
  by_cases c:0≤b
  ·rw [Nat.mul_assoc,← Nat.pow_add,show (p - b).toNat+b.toNat=p.toNat by omega,h1,show (-p).toNat=0 by omega,show (-b).toNat=0 by omega]
  ·by_cases cp:0≤p
   ·rw [show b.toNat=0 by omega,Nat.pow_zero,Nat.mul_one,show (p - b).toNat=p.toNat+(-b).toNat by omega,Nat.pow_add,← Nat.mul_assoc,h1,show (-p).toNat=0 by omega,Nat.pow_zero,Nat.mul_one]
   ·rw [show p.toNat=0 by omega,Nat.pow_zero,Nat.mul_one] at h1
    rw [h1,show b.toNat=0 by omega,Nat.pow_zero,Nat.mul_one,Nat.mul_assoc,← Nat.pow_add]
    congr 2
    omega
 have hz:n=0 → m=0:=fun e=>by subst e;exact h.zero
 unfold signed
 rw [Nat.shiftLeft_eq]
 have key':((m*2 ^ (p - b).toNat:Nat):Int)*2 ^ b.toNat=(n.natAbs:Int)*2 ^ (-b).toNat:=by
  have:=congrArg (fun x:Nat=>(x:Int)) key
  simpa [Int.natCast_mul,Int.natCast_pow] using this
 by_cases c:n=0
 ·have:=hz c
  subst c this
  simp
 ·have hs:=h.2 c
  by_cases cn:n < 0
  ·rw [if_pos (by simp [hs,cn]),Int.neg_mul,key',show (n.natAbs:Int)=-n by omega,Int.neg_mul,Int.neg_neg]
  ·rw [if_neg (by simp [hs,cn]),key',show (n.natAbs:Int)=n by omega]
theorem Sd.of_signed {t:Int} {b:Int} {n:Int} {s:Bool} (h:t*2 ^ b.toNat=n*2 ^ (-b).toNat) (hs:t ≠ 0 → s=decide (t < 0)) :
  Sd (.number s t.natAbs b) n:=by
 have h1:=congrArg Int.natAbs h
 rw [Int.natAbs_mul,Int.natAbs_mul,Int.natAbs_pow,Int.natAbs_pow] at h1
 refine ⟨h1,fun hn=>?_⟩
 have hp:(0:Int) < 2 ^ b.toNat:=Int.pow_pos (by omega)
 have hq:(0:Int) < 2 ^ (-b).toNat:=Int.pow_pos (by omega)
 have ht:t ≠ 0:=by
  rintro rfl
  rw [Int.zero_mul] at h
  rcases Int.mul_eq_zero.1 h.symm with h|h <;> omega
 rw [hs ht]
 congr 1
 apply propext
 constructor
 ·intro c
  have:n*2 ^ (-b).toNat < 0:=h ▸ Int.mul_neg_of_neg_of_pos c hp
  apply Int.not_le.1
  intro cn
  have:=Int.mul_nonneg cn (Int.le_of_lt hq)
  omega
 ·intro c
  have:t*2 ^ b.toNat < 0:=h ▸ Int.mul_neg_of_neg_of_pos c hq
  apply Int.not_le.1
  intro cn
  have:=Int.mul_nonneg cn (Int.le_of_lt hp)
  omega
theorem Sd.sum {d e:Datum} {m n:Int} (h:Sd d m) (k:Sd e n):∃ f,d.sum e=some f∧Sd f (m+n):=by
 cases d with
 | infinity s=>exact h.elim
 | nan s t=>exact h.elim
 | number s a p =>
 cases e with
 | infinity s=>exact k.elim
 | nan s t=>exact k.elim
 | number t b q =>
  refine ⟨_,rfl,?_⟩
  have h1:=h.at_base (min p q) (by omega)
  have h2:=k.at_base (min p q) (by omega)
  refine Sd.of_signed (by rw [Int.add_mul,h1,h2,Int.add_mul]) (fun hne=>?_)
  rw [if_neg hne]
theorem Sd.product {d e:Datum} {m n:Int} (h:Sd d m) (k:Sd e n):∃ f,d.product e=some f∧Sd f (m*n):=by
 cases d with
 | infinity s=>exact h.elim
 | nan s t=>exact h.elim
 | number s a p =>
 cases e with
 | infinity s=>exact k.elim
 | nan s t=>exact k.elim
 | number t b q =>
  refine ⟨_,rfl,?_,fun hne=>?_⟩
  ·have h1:=h.1
   have h2:=k.1
   rw [Int.natAbs_mul]
   apply Nat.eq_of_mul_eq_mul_right (two_pos ((-p).toNat+(-q).toNat))
   have hx:a*b*2 ^ (p+q).toNat*2 ^ ((-p).toNat+(-q).toNat)=(a*2 ^ p.toNat)*(b*2 ^ q.toNat)*2 ^ (-(p+q)).toNat:=by
    have:2 ^ (p+q).toNat*2 ^ ((-p).toNat+(-q).toNat)=2 ^ p.toNat*2 ^ q.toNat*2 ^ (-(p+q)).toNat:=by
     rw [← Nat.pow_add,← Nat.pow_add,← Nat.pow_add]
     congr 1
     omega
    calc _=a*b*(2 ^ (p+q).toNat*2 ^ ((-p).toNat+(-q).toNat)):=by rw [Nat.mul_assoc]
     _=a*b*(2 ^ p.toNat*2 ^ q.toNat*2 ^ (-(p+q)).toNat):=by rw [this]
     _=_:=by ac_rfl
   rw [hx,h1,h2,Nat.pow_add]
   ac_rfl
  ·have hm:m ≠ 0:=fun c=>hne (by rw [c,Int.zero_mul])
   have hn:n ≠ 0:=fun c=>hne (by rw [c,Int.mul_zero])
   rw [h.2 hm,k.2 hn]
   by_cases c1:m < 0 <;> by_cases c2:n < 0
   ·have:=Int.mul_pos_of_neg_of_neg c1 c2
    simp [c1,c2];omega
   ·have:=Int.mul_neg_of_neg_of_pos c1 (show 0 < n by omega)
    simp [c1,c2,this]
   ·have:=Int.mul_neg_of_pos_of_neg (show 0 < m by omega) c2
    simp [c1,c2,this]
   ·have:=Int.mul_pos (show 0 < m by omega) (show 0 < n by omega)
    simp [c1,c2];omega
theorem Sd.toInt {d:Datum} {n:Int} (h:Sd d n):d.toInt .zero=some n:=by
 cases d with
 | infinity s=>exact h.elim
 | nan s t=>exact h.elim
 | number s m p =>
  have hc:Toward.zero.cut s (m <<< p.toNat) (-p).toNat=n.natAbs:=by
   rw [Nat.shiftLeft_eq,h.1]
   by_cases c:n=0
   ·subst c
    rw [show (0:Int).natAbs=0 from rfl,Nat.zero_mul]
    exact cut_zero _ _ _
   ·exact cut_exact _ _ _ _ (by omega)
  show some (signed s (Toward.zero.cut s (m <<< p.toNat) (-p).toNat) 0)=some n
  rw [hc]
  unfold signed
  rw [Nat.shiftLeft_zero]
  by_cases c:n=0
  ·subst c;simp
  ·rw [h.2 c]
   by_cases cn:n < 0
   ·simp [cn];omega
   ·simp [cn];omega
def Rd (x:Nat) (n:Int):Prop:=Sd (double.read x) n
theorem Rd.add {x y:Nat} {m n:Int} (h:Rd x m) (k:Rd y n) (hb:(m+n).natAbs < 2 ^ 53):∃ r,floatBits .add .f64 x y=some r∧Rd r (m+n):=by
 obtain ⟨f,e,hf⟩:=Sd.sum h k
 refine ⟨double.write f,?_,hf.write hb⟩
 show ((double.read x).sum (double.read y)).map double.write=_
 rw [e]
 rfl
theorem Rd.sub {x y:Nat} {m n:Int} (h:Rd x m) (k:Rd y n) (hb:(m - n).natAbs < 2 ^ 53):∃ r,floatBits .sub .f64 x y=some r∧Rd r (m - n):=by
 obtain ⟨f,e,hf⟩:=Sd.sum h (Sd.opposite k)
 rw [← Int.sub_eq_add_neg] at hf
 refine ⟨double.write f,?_,hf.write hb⟩
 show ((double.read x).sum (double.read y).opposite).map double.write=_
 rw [e]
 rfl
theorem Rd.mul {x y:Nat} {m n:Int} (h:Rd x m) (k:Rd y n) (hb:(m*n).natAbs < 2 ^ 53):∃ r,floatBits .mul .f64 x y=some r∧Rd r (m*n):=by
 obtain ⟨f,e,hf⟩:=Sd.product h k
 refine ⟨double.write f,?_,hf.write hb⟩
 show ((double.read x).product (double.read y)).map double.write=_
 rw [e]
 rfl
theorem Rd.nearest (n:Int) (hb:n.natAbs < 2 ^ 53):Rd (FloatKind.f64.nearest n) n :=
 Sd.write (d:=.number (n < 0) n.natAbs 0) (n:=n) ⟨by simp,fun _=>rfl⟩ hb
theorem Rd.int {x:Nat} {n:Int} (h:Rd x n) (h1:-2 ^ 63≤n) (h2:n < 2 ^ 63):floatToIntVal .f64 x .i64=some n:=by
 unfold floatToIntVal
 show (match (double.read x).toInt .zero with|some n=>if IntKind.i64.min≤n∧n≤IntKind.i64.max then some n else none|none=>none)=_
 rw [Sd.toInt h]
 show (if IntKind.i64.min≤n∧n≤IntKind.i64.max then some n else none)=some n
 have e1:IntKind.i64.min=-2 ^ 63:=rfl
 have e2:IntKind.i64.max=2 ^ 63 - 1:=rfl
 rw [e1,e2,if_pos ⟨h1,by omega⟩]
def Cd (x:Nat × Nat) (z:Int × Int):Prop:=Rd x.1 z.1∧Rd x.2 z.2
def cadd (a b:Int × Int):Int × Int:=(a.1+b.1,a.2+b.2)
def cmul (a b:Int × Int):Int × Int:=(a.1*b.1 - a.2*b.2,a.1*b.2+a.2*b.1)
def Cb (z:Int × Int) (n:Nat):Prop:=z.1.natAbs≤n∧z.2.natAbs≤n
theorem Cd.add {a b c d:Nat} {y z:Int × Int} (h:Cd (a,b) y) (k:Cd (c,d) z) (hb:Cb (cadd y z) (2 ^ 53 - 1)) :
  ∃ re im,cSumBits .add .f64 a b c d=some (re,im)∧Cd (re,im) (cadd y z):=by
 obtain ⟨r,e1,h1⟩:=Rd.add h.1 k.1 (by have:=hb.1;simp only [cadd] at this;omega)
 obtain ⟨i,e2,h2⟩:=Rd.add h.2 k.2 (by have:=hb.2;simp only [cadd] at this;omega)
 refine ⟨r,i,?_,h1,h2⟩
 unfold cSumBits
 simp only at e1 e2
 rw [e1,e2]
 rfl
theorem natAbs_mul_le {a b:Int} {m n:Nat} (h:a.natAbs≤m) (k:b.natAbs≤n):(a*b).natAbs≤m*n:=by
 rw [Int.natAbs_mul];exact Nat.mul_le_mul h k
theorem Cb.cmul {y z:Int × Int} {m n:Nat} (hy:Cb y m) (hz:Cb z n):Cb (cmul y z) (2*(m*n)):=by
 have h1:=natAbs_mul_le hy.1 hz.1
 have h2:=natAbs_mul_le hy.2 hz.2
 have h3:=natAbs_mul_le hy.1 hz.2
 have h4:=natAbs_mul_le hy.2 hz.1
 constructor
 ·show (y.1*z.1 - y.2*z.2).natAbs≤_
  omega
 ·show (y.1*z.2+y.2*z.1).natAbs≤_
  omega
theorem Cb.cadd {y z:Int × Int} {m n:Nat} (hy:Cb y m) (hz:Cb z n):Cb (cadd y z) (m+n):=by
 obtain ⟨a,b⟩:=hy
 obtain ⟨c,d⟩:=hz
 exact ⟨by show (y.1+z.1).natAbs≤_;omega,by show (y.2+z.2).natAbs≤_;omega⟩
theorem Cb.le {z:Int × Int} {m n:Nat} (h:Cb z m) (k:m≤n):Cb z n:=⟨Nat.le_trans h.1 k,Nat.le_trans h.2 k⟩
theorem Cd.mul {a b c d:Nat} {y z:Int × Int} {m n:Nat} (h:Cd (a,b) y) (k:Cd (c,d) z) (hy:Cb y m) (hz:Cb z n) (hb:2*(m*n) < 2 ^ 53) :
  ∃ re im,cMulBits a b c d=some (re,im)∧Cd (re,im) (cmul y z):=by
 have hc:=hy.cmul hz
 have h1:=natAbs_mul_le hy.1 hz.1
 have h2:=natAbs_mul_le hy.2 hz.2
 have h3:=natAbs_mul_le hy.1 hz.2
 have h4:=natAbs_mul_le hy.2 hz.1
 obtain ⟨ac,e1,g1⟩:=Rd.mul h.1 k.1 (by omega)
 obtain ⟨bd,e2,g2⟩:=Rd.mul h.2 k.2 (by omega)
 obtain ⟨ad,e3,g3⟩:=Rd.mul h.1 k.2 (by omega)
 obtain ⟨bc,e4,g4⟩:=Rd.mul h.2 k.1 (by omega)
 obtain ⟨re,e5,g5⟩:=Rd.sub g1 g2 (by have:=hc.1;simp only [Fx.cmul] at this;omega)
 obtain ⟨im,e6,g6⟩:=Rd.add g3 g4 (by have:=hc.2;simp only [Fx.cmul] at this;omega)
 refine ⟨re,im,?_,g5,g6⟩
 unfold cMulBits
 simp only at e1 e2 e3 e4
 rw [e1,e2]
 simp only [Option.bind_some]
 rw [e5]
 simp only [Option.bind_some]
 rw [e3,e4]
 simp only [Option.bind_some]
 rw [e6]
 rfl
end Go.Proofs.YtjkmjpjknmghlaaGreat.Fx
namespace Go.Proofs.YtjkmjpjknmghlaaGreat.Fx
abbrev Wd:=Nat × Nat
def mulW (x y:Wd):Wd:=(cMulBits x.1 x.2 y.1 y.2).getD (0,0)
def addW (x y:Wd):Wd:=(cSumBits .add .f64 x.1 x.2 y.1 y.2).getD (0,0)
def turnW (q x:Wd):Nat → Wd
 | 0=>x
 | k+1=>mulW (turnW q x k) q
def sumW (q:Wd) (f:Nat → Wd) (k:Nat):Nat → Wd
 | 0=>(0,0)
 | j+1=>addW (sumW q f k j) (turnW q (f j) ((j*k) % 4))
def sumsW (q:Wd) (f:Nat → Wd):Nat → Wd:=fun k=>sumW q f k 4
def turnZ (q x:Int × Int):Nat → Int × Int
 | 0=>x
 | k+1=>cmul (turnZ q x k) q
def sumZ (q:Int × Int) (f:Nat → Int × Int) (k:Nat):Nat → Int × Int
 | 0=>(0,0)
 | j+1=>cadd (sumZ q f k j) (turnZ q (f j) ((j*k) % 4))
def sumsZ (q:Int × Int) (f:Nat → Int × Int):Nat → Int × Int:=fun k=>sumZ q f k 4
theorem mulW_ok {x y:Wd} {a b:Int × Int} {m n:Nat} (h:Cd x a) (k:Cd y b) (hy:Cb a m) (hz:Cb b n) (hb:2*(m*n) < 2 ^ 53) :
  cMulBits x.1 x.2 y.1 y.2=some ((mulW x y).1,(mulW x y).2)∧Cd (mulW x y) (cmul a b):=by
 obtain ⟨re,im,e,hc⟩:=Cd.mul (a:=x.1) (b:=x.2) (c:=y.1) (d:=y.2) h k hy hz hb
 have:mulW x y=(re,im):=by unfold mulW;rw [e];rfl
 rw [this]
 exact ⟨e,hc⟩
theorem addW_ok {x y:Wd} {a b:Int × Int} (h:Cd x a) (k:Cd y b) (hb:Cb (cadd a b) (2 ^ 53 - 1)) :
  cSumBits .add .f64 x.1 x.2 y.1 y.2=some ((addW x y).1,(addW x y).2)∧Cd (addW x y) (cadd a b):=by
 obtain ⟨re,im,e,hc⟩:=Cd.add (a:=x.1) (b:=x.2) (c:=y.1) (d:=y.2) h k hb
 have:addW x y=(re,im):=by unfold addW;rw [e];rfl
 rw [this]
 exact ⟨e,hc⟩
def Quarter (q:Int × Int):Prop:=q=(0,1) ∨ q=(0,-1)
theorem Quarter.cb {q:Int × Int} (h:Quarter q):Cb q 1:=by rcases h with rfl|rfl <;> exact ⟨by decide,by decide⟩
theorem Quarter.mul {q z:Int × Int} {n:Nat} (h:Quarter q) (hz:Cb z n):Cb (cmul z q) n:=by
 obtain ⟨a,b⟩:=z
 obtain ⟨h1,h2⟩:=hz
 rcases h with rfl|rfl
 ·refine ⟨?_,?_⟩ <;> simp only [cmul] <;> omega
 ·refine ⟨?_,?_⟩ <;> simp only [cmul] <;> omega
theorem turn_ok {q:Wd} {qz:Int × Int} {x:Wd} {z:Int × Int} {n:Nat} (hq:Cd q qz) (h4:Quarter qz) (hx:Cd x z) (hz:Cb z n) (hb:n < 2 ^ 51) :
  ∀ k,Cd (turnW q x k) (turnZ qz z k)∧Cb (turnZ qz z k) n
 | 0=>⟨hx,hz⟩
 | k+1=>by
  obtain ⟨h1,h2⟩:=turn_ok hq h4 hx hz hb k
  exact ⟨(mulW_ok h1 hq h2 h4.cb (by omega)).2,h4.mul h2⟩
theorem turn_mul {q:Wd} {qz:Int × Int} {x:Wd} {z:Int × Int} {n:Nat} (hq:Cd q qz) (h4:Quarter qz) (hx:Cd x z) (hz:Cb z n) (hb:n < 2 ^ 51) (k:Nat) :
  cMulBits (turnW q x k).1 (turnW q x k).2 q.1 q.2=some ((turnW q x (k+1)).1,(turnW q x (k+1)).2) :=
 (mulW_ok (turn_ok hq h4 hx hz hb k).1 hq (turn_ok hq h4 hx hz hb k).2 h4.cb (by omega)).1
theorem rd_zero:Rd 0 0:=Rd.nearest 0 (by decide)
theorem cd_zero:Cd (0,0) (0,0):=⟨rd_zero,rd_zero⟩
theorem sum_ok {q:Wd} {qz:Int × Int} {f:Nat → Wd} {z:Nat → Int × Int} {n:Nat} (hq:Cd q qz) (h4:Quarter qz) (hx:∀ i,i < 4 → Cd (f i) (z i)) (hz:∀ i,i < 4 → Cb (z i) n) (hb:n < 2 ^ 50) (k:Nat) :
  ∀ j,j≤4 → Cd (sumW q f k j) (sumZ qz z k j)∧Cb (sumZ qz z k j) (j*n)
 | 0,_=>⟨cd_zero,⟨by simp [sumZ],by simp [sumZ]⟩⟩
 | j+1,hj=>by
  obtain ⟨h1,h2⟩:=sum_ok hq h4 hx hz hb k j (by omega)
  obtain ⟨h3,h5⟩:=turn_ok hq h4 (hx j (by omega)) (hz j (by omega)) (by omega) ((j*k) % 4)
  have h6:=h2.cadd h5
  have h7:j*n+n≤4*n:=by
   have:=Nat.mul_le_mul_right n hj
   rw [Nat.succ_mul] at this
   exact this
  exact ⟨(addW_ok h1 h3 (h6.le (by omega))).2,by rw [Nat.succ_mul];exact h6⟩
theorem sum_add {q:Wd} {qz:Int × Int} {f:Nat → Wd} {z:Nat → Int × Int} {n:Nat} (hq:Cd q qz) (h4:Quarter qz) (hx:∀ i,i < 4 → Cd (f i) (z i)) (hz:∀ i,i < 4 → Cb (z i) n) (hb:n < 2 ^ 50) (k j:Nat) (hj:j < 4) :
  cSumBits .add .f64 (sumW q f k j).1 (sumW q f k j).2 (turnW q (f j) ((j*k) % 4)).1 (turnW q (f j) ((j*k) % 4)).2=some ((sumW q f k (j+1)).1,(sumW q f k (j+1)).2):=by
 obtain ⟨h1,h2⟩:=sum_ok hq h4 hx hz hb k j (by omega)
 obtain ⟨h3,h5⟩:=turn_ok hq h4 (hx j (by omega)) (hz j (by omega)) (by omega) ((j*k) % 4)
 have h6:=h2.cadd h5
 have h7:j*n+n≤4*n:=by
  have:=Nat.mul_le_mul_right n (show j+1≤4 by omega)
  rw [Nat.succ_mul] at this
  exact this
 exact (addW_ok h1 h3 (h6.le (by omega))).1
theorem sums_ok {q:Wd} {qz:Int × Int} {f:Nat → Wd} {z:Nat → Int × Int} {n:Nat} (hq:Cd q qz) (h4:Quarter qz) (hx:∀ i,i < 4 → Cd (f i) (z i)) (hz:∀ i,i < 4 → Cb (z i) n) (hb:n < 2 ^ 50) (k:Nat) :
  Cd (sumsW q f k) (sumsZ qz z k)∧Cb (sumsZ qz z k) (4*n):=sum_ok hq h4 hx hz hb k 4 (Nat.le_refl _)
def rightW:Wd:=(0,13830554455654793216)
def leftW:Wd:=(0,4607182418800017408)
theorem rd_m1:Rd 13830554455654793216 (-1):=by
 have h:=Rd.nearest (-1) (by decide)
 rwa [show FloatKind.f64.nearest (-1)=13830554455654793216 by kernel_rfl] at h
theorem rd_1:Rd 4607182418800017408 1:=by
 have h:=Rd.nearest 1 (by decide)
 rwa [show FloatKind.f64.nearest 1=4607182418800017408 by kernel_rfl] at h
theorem cd_right:Cd rightW (0,-1):=⟨rd_zero,rd_m1⟩
theorem cd_left:Cd leftW (0,1):=⟨rd_zero,rd_1⟩
def inW (l:Nat → Int):Nat → Wd:=fun i=>(FloatKind.f64.nearest (l i),0)
def ofW (l:Nat → Int):Nat → Wd:=sumsW rightW (inW l)
def ofZ (l:Nat → Int):Nat → Int × Int:=sumsZ (0,-1) (fun i=>(l i,0))
def timesW (f g:Nat → Wd):Nat → Wd:=fun i=>mulW (f i) (g i)
def plusW (f g:Nat → Wd):Nat → Wd:=fun i=>addW (f i) (g i)
theorem in_ok {l:Nat → Int} {n:Nat} (h:∀ i,i < 4 → (l i).natAbs≤n) (hb:n < 2 ^ 50):∀ i,i < 4 → Cd (inW l i) (l i,0)∧Cb (l i,0) n:=fun i hi =>
 ⟨⟨Rd.nearest _ (by have:=h i hi;omega),rd_zero⟩,h i hi,by simp⟩
theorem of_ok {l:Nat → Int} {n:Nat} (h:∀ i,i < 4 → (l i).natAbs≤n) (hb:n < 2 ^ 50) (k:Nat):Cd (ofW l k) (ofZ l k)∧Cb (ofZ l k) (4*n) :=
 sums_ok cd_right (.inr rfl) (fun i hi=>(in_ok h hb i hi).1) (fun i hi=>(in_ok h hb i hi).2) hb k
def crossZ (x t:Nat → Int):Nat → Int × Int:=fun i=>cmul (ofZ x i) (ofZ t i)
theorem back_cross (x t:Nat → Int) :
  (sumsZ (0,1) (crossZ x t) 2).1=4*(x 0*t 2+x 1*t 1+x 2*t 0+x 3*t 3)∧(sumsZ (0,1) (crossZ x t) 3).1=4*(x 0*t 3+x 1*t 2+x 2*t 1+x 3*t 0):=by
 constructor <;> simp only [sumsZ,sumZ,turnZ,crossZ,ofZ,cmul,cadd,Nat.reduceMul,Nat.reduceMod] <;> grind
end Go.Proofs.YtjkmjpjknmghlaaGreat.Fx
