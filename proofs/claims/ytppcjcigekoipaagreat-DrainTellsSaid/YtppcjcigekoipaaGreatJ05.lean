/-
  Facts taken over to a later world, each by one word ('.fut').
  A node that is handed back (layer 25).
  Lists alike, element by element.
  Whole numbers below 2^53 as 64-bit floats: what bits stand for them; sums, differences, products that stay below are exact; complex numbers of such parts.
  A number held between two, and made one of 8 bits.
  tensor (layer 5): what a right tensor is.
  A ring's numbers, and whose turn it is (ring, layer 41).
  Whose turn it is goes behind all, or aside (ring, layer 41).
  Whose turn it is goes behind all, or aside (ring, layer 41).
-/
import Derived.StillTailTactics
import Derived.Test.YtppcjcigekoipaaGreatJ03
set_option linter.unusedVariables false
set_option linter.unusedSimpArgs false
namespace Go.Proofs.YtppcjcigekoipaaGreat
open Go.RowKit Go.ChangeShapes Go.WideShapes
set_option maxRecDepth 100000
theorem Sl.fut {α:Type} {t:Ty α} {w w':World} {A:Option Addr} {n cap:Nat} {l:List α} (h:Sl t w (blo w.heap.size) A n cap l) (hb:Below w.heap.size w w'):Sl t w' (blo w'.heap.size) A n cap l:=h.later hb (Nat.le_refl _)
structure Far (w0 w:World):Prop where
 out:Below w0.heap.size w0 w
theorem Far.refl (w:World):Far w w:=⟨Below.refl _ _⟩
theorem Far.fut {w0 w w':World} (h:Far w0 w) (hb:Below w.heap.size w w'):Far w0 w':=⟨below_later hb h.out⟩
theorem Far.size {w0 w:World} (h:Far w0 w):w0.heap.size≤w.heap.size:=h.out.size
theorem Far.drewN {w0 w:World} (h:Far w0 w) (n:Nat):Far w0 (w.drewN n):=⟨below_drewN h.out n⟩
theorem Blk.fut {w w':World} {g:Nat} {e:TypeId} {cs:Array Value} (h:Blk w g e cs) (hb:Below w.heap.size w w'):Blk w' g e cs:=h.later hb
theorem Sl.old {α:Type} {t:Ty α} {w:World} {m:Nat} {A:Option Addr} {n cap:Nat} {l:List α} (h:Sl t w (bin m w.heap.size) A n cap l):Sl t w (blo w.heap.size) A n cap l:=h.more bin_blo
theorem Sl.since {α:Type} {t:Ty α} {w0 w w':World} {A:Option Addr} {n cap:Nat} {l:List α} (h:Sl t w' (bin w.heap.size w'.heap.size) A n cap l) (hf:Far w0 w):Sl t w' (bin w0.heap.size w'.heap.size) A n cap l:=h.more (bin_more hf.size (Nat.le_refl _))
structure New (w0:World) {α:Type} (t:Ty α) (w:World) (A:Option Addr) (n cap:Nat) (l:List α):Prop where
 out:Sl t w (bin w0.heap.size w.heap.size) A n cap l
theorem New.fut {w0:World} {α:Type} {t:Ty α} {w w':World} {A:Option Addr} {n cap:Nat} {l:List α} (h:New w0 t w A n cap l) (hb:Below w.heap.size w w'):New w0 t w' A n cap l :=
 ⟨(h.out.below hb fun _ k=>k.2).more (bin_more (Nat.le_refl _) hb.size)⟩
theorem New.old {w0:World} {α:Type} {t:Ty α} {w:World} {A:Option Addr} {n cap:Nat} {l:List α} (h:New w0 t w A n cap l):Sl t w (blo w.heap.size) A n cap l:=h.out.old
theorem New.set {w0:World} {α:Type} {t:Ty α} {w:World} {A:Option Addr} {n cap:Nat} {l:List α} (h:New w0 t w A n cap l) (p:Addr) (u:Value) (hp:p.block < w0.heap.size):New w0 t (w.setCell p u) A n cap l :=
 ⟨(h.out.keep fun b hb=>Below.heap_setCell w p u b (by have:=hb.1;omega)).more fun b hb=>⟨hb.1,by simpa using hb.2⟩⟩
theorem Far.set {w0 w:World} (h:Far w0 w) (p:Addr) (u:Value) (hp:w0.heap.size≤p.block):Far w0 (w.setCell p u):=⟨h.out.setCell hp _⟩
theorem Far.trans {w0 w1 w2:World} (h:Far w0 w1) (h':Far w1 w2):Far w0 w2:=⟨below_later h'.out h.out⟩
theorem New.since {w0 w1:World} {α:Type} {t:Ty α} {w:World} {A:Option Addr} {n cap:Nat} {l:List α} (h:New w1 t w A n cap l) (hf:Far w0 w1):Sl t w (bin w0.heap.size w.heap.size) A n cap l:=h.out.more (bin_more hf.size (Nat.le_refl _))
theorem New.of {w0 w w':World} {α:Type} {t:Ty α} {A:Option Addr} {n cap:Nat} {l:List α} (h:Sl t w' (bin w.heap.size w'.heap.size) A n cap l) (hf:Far w0 w):New w0 t w' A n cap l:=⟨h.since hf⟩
theorem New.nil (w0:World) {α:Type} (t:Ty α) (w:World):New w0 t w none 0 0 ([]:List α):=⟨Sl.nil _ _ _⟩
def RetNode (d:Node) (w:World) (e:Ending) (w':World):Prop :=
 ∃ (W:Option Addr) (nw cw:Nat) (B:Option Addr) (nb cb:Nat),e=.returned (.agg (nN d.kind d.a d.b d.k d.s d.p d.out d.za d.zb W nw cw B nb cb d.qm d.qs d.qz d.rm d.rs d.rz d.lo d.hi))∧Sl (tInt .i8) w' (bin w.heap.size w'.heap.size) W nw cw d.w∧Sl (tInt .i32) w' (bin w.heap.size w'.heap.size) B nb cb d.bias∧Below w.heap.size w w'
end Go.Proofs.YtppcjcigekoipaaGreat
namespace Go.Proofs.YtppcjcigekoipaaGreat
theorem list_eq_getD {l l':List Int} {n:Nat} (h1:l.length=n) (h2:l'.length=n) (h:∀ j,j < n → l.getD j 0=l'.getD j 0):l=l':=by
 apply List.ext_getElem (by omega)
 intro j ha hb
 have:=h j (by omega)
 rw [List.getD_eq_getElem?_getD,List.getD_eq_getElem?_getD,List.getElem?_eq_getElem ha,List.getElem?_eq_getElem hb] at this
 exact this
end Go.Proofs.YtppcjcigekoipaaGreat
namespace Go.Proofs.YtppcjcigekoipaaGreat.Fx
open Ieee
def Sd:Datum → Int → Prop
 | .number s m p,n=>m*2 ^ p.toNat=n.natAbs*2 ^ (-p).toNat∧(n ≠ 0 → s=decide (n < 0))
 | _,_=>False
theorem two_pos (k:Nat):0 < 2 ^ k:=Nat.two_pow_pos k
theorem Sd.zero {s:Bool} {m:Nat} {p:Int} (h:Sd (.number s m p) 0):m=0:=by
 have h1:=h.1
 have:=two_pos p.toNat
 rw [show (0:Int).natAbs=0 from rfl,Nat.zero_mul] at h1
 rcases Nat.mul_eq_zero.1 h1 with h|h <;> omega
theorem log_mul (m k:Nat) (h:m ≠ 0):(m*2 ^ k).log2=m.log2+k:=by
 have h1:=Nat.log2_self_le h
 have h2:=@Nat.lt_log2_self m
 have hp:=two_pos k
 have hne:m*2 ^ k ≠ 0:=Nat.mul_ne_zero h (by omega)
 apply Nat.le_antisymm
 ·apply Nat.le_of_lt_succ
  rw [Nat.log2_lt hne,show (m.log2+k).succ=(m.log2+1)+k by omega,Nat.pow_add]
  exact Nat.mul_lt_mul_of_pos_right h2 hp
 ·rw [Nat.le_log2 hne,Nat.pow_add]
  exact Nat.mul_le_mul_right _ h1
theorem cut_exact (way:Toward) (neg:Bool) (a d:Nat) (ha:a ≠ 0):way.cut neg (a*2 ^ d) d=a:=by
 have hl:(a*2 ^ d).log2=a.log2+d:=log_mul a d ha
 unfold Toward.cut
 rw [hl,Nat.min_eq_left (by omega),Nat.one_shiftLeft]
 simp only [Nat.mul_mod_left,Nat.mul_div_cancel _ (two_pos d)]
 have:=two_pos d
 cases way <;> simp <;> omega
theorem cut_zero (neg:Bool) (d:Nat) (way:Toward):way.cut neg 0 d=0:=by
 unfold Toward.cut
 simp only [Nat.zero_mod,Nat.zero_div]
 have h:∀ k,0 < 1 <<< k:=fun k=>by rw [Nat.one_shiftLeft];exact two_pos k
 have:=h (min d (Nat.log2 0+2))
 cases way <;> simp <;> omega
theorem word_read (s:Bool) (k e:Nat) (h1:2 ^ 52≤k) (h2:k < 2 ^ 53) (h3:e < 2000) :
  double.read (double.word s (min (e*double.binade+k) double.infRung))=.number s k (e - 1074):=by
 have hw:double.signWeight=2 ^ 63:=rfl
 have hb:double.binade=2 ^ 52:=rfl
 have hi:double.infRung=2047*2 ^ 52:=rfl
 have hl:double.leastPlace=-1074:=rfl
 have hm:min (e*double.binade+k) double.infRung=e*2 ^ 52+k:=by
  rw [hb,hi];omega
 rw [hm]
 have hlt:e*2 ^ 52+k < 2 ^ 63:=by omega
 have d1:(double.word s (e*2 ^ 52+k) / 2 ^ 63 % 2 == 1)=s:=by
  unfold Format.word
  rw [hw]
  cases s <;> simp <;> omega
 have d2:double.word s (e*2 ^ 52+k) % 2 ^ 63=e*2 ^ 52+k:=by
  unfold Format.word
  rw [hw]
  cases s <;> simp <;> omega
 unfold Format.read
 simp only [hw,hb,hi,hl,d1,d2]
 rw [if_neg (by omega),if_pos (by omega)]
 have e1:2 ^ 52+(e*2 ^ 52+k) % 2 ^ 52=k:=by omega
 have e2:(e*2 ^ 52+k) / 2 ^ 52 - 1=e:=by omega
 rw [e1,e2]
 congr 1
theorem Sd.write {d:Datum} {n:Int} (h:Sd d n) (hb:n.natAbs < 2 ^ 53):Sd (double.read (double.write d)) n:=by
 cases d with
 | infinity s=>exact h.elim
 | nan s t=>exact h.elim
 | number s m p =>
 show Sd (double.read (double.nearest s m p)) n
 by_cases hm:m=0
 ·subst hm
  have hn:n=0:=by
   have:=h.1
   have hp:=two_pos (-p).toNat
   rw [Nat.zero_mul] at this
   rcases Nat.mul_eq_zero.1 this.symm with h|h <;> omega
  subst hn
  unfold Format.nearest
  rw [if_pos rfl]
  have hz:double.read (double.word s 0)=.number s 0 (-1074):=by cases s <;> rfl
  rw [hz]
  refine ⟨?_,fun h=>absurd rfl h⟩
  rw [show (0:Int).natAbs=0 from rfl,Nat.zero_mul,Nat.zero_mul]
 ·have hn:n ≠ 0:=by
   rintro rfl
   exact hm h.zero
  obtain ⟨hv,hs⟩:=h
  have hN:n.natAbs ≠ 0:=by omega
  generalize hNe:n.natAbs=N at *
  have hlog:m.log2+p.toNat=N.log2+(-p).toNat:=by
   rw [← log_mul m _ hm,hv,log_mul N _ hN]
  have hL:N.log2 < 53:=(Nat.log2_lt hN).2 hb
  have hl:double.leastPlace=-1074:=rfl
  unfold Format.nearest
  rw [if_neg hm]
  have hlast:max (p+(m.log2:Int) - ((double.fractionBits:Nat):Int)) double.leastPlace=(N.log2:Int) - 52:=by
   rw [hl,show double.fractionBits=52 from rfl]
   omega
  simp only [hlast]
  have hk:Toward.even.cut s (m <<< (p - ((N.log2:Int) - 52)).toNat) (((N.log2:Int) - 52) - p).toNat=N*2 ^ (52 - N.log2):=by
   by_cases c:p≤(N.log2:Int) - 52
   ·have e1:(p - ((N.log2:Int) - 52)).toNat=0:=by omega
    have e2:p.toNat=0:=by omega
    rw [e2,Nat.pow_zero,Nat.mul_one] at hv
    rw [e1,Nat.shiftLeft_zero,hv,show (-p).toNat=(52 - N.log2)+(((N.log2:Int) - 52) - p).toNat by omega,Nat.pow_add,← Nat.mul_assoc]
    exact cut_exact _ _ _ _ (Nat.mul_ne_zero hN (by have:=two_pos (52 - N.log2);omega))
   ·have e1:(((N.log2:Int) - 52) - p).toNat=0:=by omega
    rw [e1,Nat.shiftLeft_eq]
    have:=cut_exact .even s (m*2 ^ (p - ((N.log2:Int) - 52)).toNat) 0 (Nat.mul_ne_zero hm (by have:=two_pos (p - ((N.log2:Int) - 52)).toNat;omega))
    rw [Nat.pow_zero,Nat.mul_one] at this
    rw [this]
    by_cases cp:0≤p
    ·rw [show (p - ((N.log2:Int) - 52)).toNat=p.toNat+(52 - N.log2) by omega,Nat.pow_add,← Nat.mul_assoc,hv,show (-p).toNat=0 by omega,Nat.pow_zero,Nat.mul_one]
    ·rw [show p.toNat=0 by omega,Nat.pow_zero,Nat.mul_one] at hv
     rw [hv,Nat.mul_assoc,← Nat.pow_add]
     congr 2
     omega
  rw [hk]
  have k1:2 ^ 52≤N*2 ^ (52 - N.log2):=by
   have:=Nat.log2_self_le hN
   have h2:=Nat.mul_le_mul_right (2 ^ (52 - N.log2)) this
   rw [← Nat.pow_add,show N.log2+(52 - N.log2)=52 by omega] at h2
   exact h2
  have k2:N*2 ^ (52 - N.log2) < 2 ^ 53:=by
   have:=@Nat.lt_log2_self N
   have h2:=Nat.mul_lt_mul_of_pos_right this (two_pos (52 - N.log2))
   rw [← Nat.pow_add,show N.log2+1+(52 - N.log2)=53 by omega] at h2
   exact h2
  have hd:(((N.log2:Int) - 52) - double.leastPlace).toNat=N.log2+1022:=by rw [hl];omega
  rw [hd,word_read s _ _ k1 k2 (by omega)]
  refine ⟨?_,hs⟩
  rw [hNe,show (((N.log2+1022:Nat):Int) - 1074).toNat=0 by omega,show (-(((N.log2+1022:Nat):Int) - 1074)).toNat=52 - N.log2 by omega,Nat.pow_zero,Nat.mul_one]
theorem Sd.opposite {d:Datum} {n:Int} (h:Sd d n):Sd d.opposite (-n):=by
 cases d with
 | infinity s=>exact h.elim
 | nan s t=>exact h.elim
 | number s m p =>
  refine ⟨by rw [Int.natAbs_neg];exact h.1,fun hn=>?_⟩
  have:=h.2 (by omega)
  rw [this]
  by_cases c:n < 0
  ·simp [c];omega
  ·simp [c];omega
theorem Sd.at_base {s:Bool} {m:Nat} {p:Int} {n:Int} (h:Sd (.number s m p) n) (b:Int) (hb:b≤p) :
  signed s m (p - b).toNat*2 ^ b.toNat=n*2 ^ (-b).toNat:=by
 have key:(m*2 ^ (p - b).toNat)*2 ^ b.toNat=n.natAbs*2 ^ (-b).toNat:=by
  have h1:=h.1
  by_cases c:0≤b
  ·rw [Nat.mul_assoc,← Nat.pow_add,show (p - b).toNat+b.toNat=p.toNat by omega,h1,show (-p).toNat=0 by omega,show (-b).toNat=0 by omega]
  ·by_cases cp:0≤p
   ·rw [show b.toNat=0 by omega,Nat.pow_zero,Nat.mul_one,show (p - b).toNat=p.toNat+(-b).toNat by omega,Nat.pow_add,← Nat.mul_assoc,h1,show (-p).toNat=0 by omega,Nat.pow_zero,Nat.mul_one]
   ·rw [show p.toNat=0 by omega,Nat.pow_zero,Nat.mul_one] at h1
    rw [h1,show b.toNat=0 by omega,Nat.pow_zero,Nat.mul_one,Nat.mul_assoc,← Nat.pow_add]
    congr 2
    omega
 have hz:n=0 → m=0:=fun e=>by subst e;exact h.zero
 unfold signed
 rw [Nat.shiftLeft_eq]
 have key':((m*2 ^ (p - b).toNat:Nat):Int)*2 ^ b.toNat=(n.natAbs:Int)*2 ^ (-b).toNat:=by
  have:=congrArg (fun x:Nat=>(x:Int)) key
  simpa [Int.natCast_mul,Int.natCast_pow] using this
 by_cases c:n=0
 ·have:=hz c
  subst c this
  simp
 ·have hs:=h.2 c
  by_cases cn:n < 0
  ·rw [if_pos (by simp [hs,cn]),Int.neg_mul,key',show (n.natAbs:Int)=-n by omega,Int.neg_mul,Int.neg_neg]
  ·rw [if_neg (by simp [hs,cn]),key',show (n.natAbs:Int)=n by omega]
theorem Sd.of_signed {t:Int} {b:Int} {n:Int} {s:Bool} (h:t*2 ^ b.toNat=n*2 ^ (-b).toNat) (hs:t ≠ 0 → s=decide (t < 0)) :
  Sd (.number s t.natAbs b) n:=by
 have h1:=congrArg Int.natAbs h
 rw [Int.natAbs_mul,Int.natAbs_mul,Int.natAbs_pow,Int.natAbs_pow] at h1
 refine ⟨h1,fun hn=>?_⟩
 have hp:(0:Int) < 2 ^ b.toNat:=Int.pow_pos (by omega)
 have hq:(0:Int) < 2 ^ (-b).toNat:=Int.pow_pos (by omega)
 have ht:t ≠ 0:=by
  rintro rfl
  rw [Int.zero_mul] at h
  rcases Int.mul_eq_zero.1 h.symm with h|h <;> omega
 rw [hs ht]
 congr 1
 apply propext
 constructor
 ·intro c
  have:n*2 ^ (-b).toNat < 0:=h ▸ Int.mul_neg_of_neg_of_pos c hp
  apply Int.not_le.1
  intro cn
  have:=Int.mul_nonneg cn (Int.le_of_lt hq)
  omega
 ·intro c
  have:t*2 ^ b.toNat < 0:=h ▸ Int.mul_neg_of_neg_of_pos c hq
  apply Int.not_le.1
  intro cn
  have:=Int.mul_nonneg cn (Int.le_of_lt hp)
  omega
theorem Sd.sum {d e:Datum} {m n:Int} (h:Sd d m) (k:Sd e n):∃ f,d.sum e=some f∧Sd f (m+n):=by
 cases d with
 | infinity s=>exact h.elim
 | nan s t=>exact h.elim
 | number s a p =>
 cases e with
 | infinity s=>exact k.elim
 | nan s t=>exact k.elim
 | number t b q =>
  refine ⟨_,rfl,?_⟩
  have h1:=h.at_base (min p q) (by omega)
  have h2:=k.at_base (min p q) (by omega)
  refine Sd.of_signed (by rw [Int.add_mul,h1,h2,Int.add_mul]) (fun hne=>?_)
  rw [if_neg hne]
theorem Sd.product {d e:Datum} {m n:Int} (h:Sd d m) (k:Sd e n):∃ f,d.product e=some f∧Sd f (m*n):=by
 cases d with
 | infinity s=>exact h.elim
 | nan s t=>exact h.elim
 | number s a p =>
 cases e with
 | infinity s=>exact k.elim
 | nan s t=>exact k.elim
 | number t b q =>
  refine ⟨_,rfl,?_,fun hne=>?_⟩
  ·have h1:=h.1
   have h2:=k.1
   rw [Int.natAbs_mul]
   apply Nat.eq_of_mul_eq_mul_right (two_pos ((-p).toNat+(-q).toNat))
   have hx:a*b*2 ^ (p+q).toNat*2 ^ ((-p).toNat+(-q).toNat)=(a*2 ^ p.toNat)*(b*2 ^ q.toNat)*2 ^ (-(p+q)).toNat:=by
    have:2 ^ (p+q).toNat*2 ^ ((-p).toNat+(-q).toNat)=2 ^ p.toNat*2 ^ q.toNat*2 ^ (-(p+q)).toNat:=by
     rw [← Nat.pow_add,← Nat.pow_add,← Nat.pow_add]
     congr 1
     omega
    calc _=a*b*(2 ^ (p+q).toNat*2 ^ ((-p).toNat+(-q).toNat)):=by rw [Nat.mul_assoc]
     _=a*b*(2 ^ p.toNat*2 ^ q.toNat*2 ^ (-(p+q)).toNat):=by rw [this]
     _=_:=by ac_rfl
   rw [hx,h1,h2,Nat.pow_add]
   ac_rfl
  ·have hm:m ≠ 0:=fun c=>hne (by rw [c,Int.zero_mul])
   have hn:n ≠ 0:=fun c=>hne (by rw [c,Int.mul_zero])
   rw [h.2 hm,k.2 hn]
   by_cases c1:m < 0 <;> by_cases c2:n < 0
   ·have:=Int.mul_pos_of_neg_of_neg c1 c2
    simp [c1,c2];omega
   ·have:=Int.mul_neg_of_neg_of_pos c1 (show 0 < n by omega)
    simp [c1,c2,this]
   ·have:=Int.mul_neg_of_pos_of_neg (show 0 < m by omega) c2
    simp [c1,c2,this]
   ·have:=Int.mul_pos (show 0 < m by omega) (show 0 < n by omega)
    simp [c1,c2];omega
theorem Sd.toInt {d:Datum} {n:Int} (h:Sd d n):d.toInt .zero=some n:=by
 cases d with
 | infinity s=>exact h.elim
 | nan s t=>exact h.elim
 | number s m p =>
  have hc:Toward.zero.cut s (m <<< p.toNat) (-p).toNat=n.natAbs:=by
   rw [Nat.shiftLeft_eq,h.1]
   by_cases c:n=0
   ·subst c
    rw [show (0:Int).natAbs=0 from rfl,Nat.zero_mul]
    exact cut_zero _ _ _
   ·exact cut_exact _ _ _ _ (by omega)
  show some (signed s (Toward.zero.cut s (m <<< p.toNat) (-p).toNat) 0)=some n
  rw [hc]
  unfold signed
  rw [Nat.shiftLeft_zero]
  by_cases c:n=0
  ·subst c;simp
  ·rw [h.2 c]
   by_cases cn:n < 0
   ·simp [cn];omega
   ·simp [cn];omega
def Rd (x:Nat) (n:Int):Prop:=Sd (double.read x) n
theorem Rd.add {x y:Nat} {m n:Int} (h:Rd x m) (k:Rd y n) (hb:(m+n).natAbs < 2 ^ 53):∃ r,floatBits .add .f64 x y=some r∧Rd r (m+n):=by
 obtain ⟨f,e,hf⟩:=Sd.sum h k
 refine ⟨double.write f,?_,hf.write hb⟩
 show ((double.read x).sum (double.read y)).map double.write=_
 rw [e]
 rfl
theorem Rd.sub {x y:Nat} {m n:Int} (h:Rd x m) (k:Rd y n) (hb:(m - n).natAbs < 2 ^ 53):∃ r,floatBits .sub .f64 x y=some r∧Rd r (m - n):=by
 obtain ⟨f,e,hf⟩:=Sd.sum h (Sd.opposite k)
 rw [← Int.sub_eq_add_neg] at hf
 refine ⟨double.write f,?_,hf.write hb⟩
 show ((double.read x).sum (double.read y).opposite).map double.write=_
 rw [e]
 rfl
theorem Rd.nearest (n:Int) (hb:n.natAbs < 2 ^ 53):Rd (FloatKind.f64.nearest n) n :=
 Sd.write (d:=.number (n < 0) n.natAbs 0) (n:=n) ⟨by simp,fun _=>rfl⟩ hb
theorem Rd.int {x:Nat} {n:Int} (h:Rd x n) (h1:-2 ^ 63≤n) (h2:n < 2 ^ 63):floatToIntVal .f64 x .i64=some n:=by
 unfold floatToIntVal
 show (match (double.read x).toInt .zero with|some n=>if IntKind.i64.min≤n∧n≤IntKind.i64.max then some n else none|none=>none)=_
 rw [Sd.toInt h]
 show (if IntKind.i64.min≤n∧n≤IntKind.i64.max then some n else none)=some n
 have e1:IntKind.i64.min=-2 ^ 63:=rfl
 have e2:IntKind.i64.max=2 ^ 63 - 1:=rfl
 rw [e1,e2,if_pos ⟨h1,by omega⟩]
def Cd (x:Nat × Nat) (z:Int × Int):Prop:=Rd x.1 z.1∧Rd x.2 z.2
def cadd (a b:Int × Int):Int × Int:=(a.1+b.1,a.2+b.2)
def Cb (z:Int × Int) (n:Nat):Prop:=z.1.natAbs≤n∧z.2.natAbs≤n
theorem Cd.add {a b c d:Nat} {y z:Int × Int} (h:Cd (a,b) y) (k:Cd (c,d) z) (hb:Cb (cadd y z) (2 ^ 53 - 1)) :
  ∃ re im,cSumBits .add .f64 a b c d=some (re,im)∧Cd (re,im) (cadd y z):=by
 obtain ⟨r,e1,h1⟩:=Rd.add h.1 k.1 (by have:=hb.1;simp only [cadd] at this;omega)
 obtain ⟨i,e2,h2⟩:=Rd.add h.2 k.2 (by have:=hb.2;simp only [cadd] at this;omega)
 refine ⟨r,i,?_,h1,h2⟩
 unfold cSumBits
 simp only at e1 e2
 rw [e1,e2]
 rfl
theorem natAbs_mul_le {a b:Int} {m n:Nat} (h:a.natAbs≤m) (k:b.natAbs≤n):(a*b).natAbs≤m*n:=by
 rw [Int.natAbs_mul];exact Nat.mul_le_mul h k
theorem Cb.cadd {y z:Int × Int} {m n:Nat} (hy:Cb y m) (hz:Cb z n):Cb (cadd y z) (m+n):=by
 obtain ⟨a,b⟩:=hy
 obtain ⟨c,d⟩:=hz
 exact ⟨by show (y.1+z.1).natAbs≤_;omega,by show (y.2+z.2).natAbs≤_;omega⟩
theorem Cb.le {z:Int × Int} {m n:Nat} (h:Cb z m) (k:m≤n):Cb z n:=⟨Nat.le_trans h.1 k,Nat.le_trans h.2 k⟩
end Go.Proofs.YtppcjcigekoipaaGreat.Fx
namespace Go.Proofs.YtppcjcigekoipaaGreat
open Go.RowKit Go.ChangeShapes Go.WideShapes
set_option maxRecDepth 100000
set_option maxHeartbeats 2000000
def heldV (v lo hi:Int):Int:=if v < lo then lo else if v > hi then hi else v
theorem held_any (v lo hi:Int) (w:World):Calls Tryz.prog 225 (sN v lo hi) w fun e w'=>e=.returned (.int .i64 (heldV v lo hi))∧w=w':=by
 unfold heldV
 by_cases a1:v < lo
 ·rw [if_pos a1]
  go_enter Tryz.func225,Tryz.ntmps225
  go_wp2_with fail
  go_ret
  exact ⟨rfl,rfl⟩
 ·rw [if_neg a1]
  by_cases a2:v > hi
  ·rw [if_pos a2]
   go_enter Tryz.func225,Tryz.ntmps225
   go_wp2_with fail
   go_ret
   exact ⟨rfl,rfl⟩
  ·rw [if_neg a2]
   go_enter Tryz.func225,Tryz.ntmps225
   go_wp2_with fail
   go_ret
   exact ⟨rfl,rfl⟩
theorem rheld_any (v lo hi:Int) (w:World):Calls Tryz.prog 151 (sN v lo hi) w fun e w'=>e=.returned (.int .i64 (heldV v lo hi))∧w=w':=by
 unfold heldV
 by_cases a1:v < lo
 ·rw [if_pos a1]
  go_enter Tryz.func151,Tryz.ntmps151
  go_wp2_with fail
  go_ret
  exact ⟨rfl,rfl⟩
 ·rw [if_neg a1]
  by_cases a2:v > hi
  ·rw [if_pos a2]
   go_enter Tryz.func151,Tryz.ntmps151
   go_wp2_with fail
   go_ret
   exact ⟨rfl,rfl⟩
  ·rw [if_neg a2]
   go_enter Tryz.func151,Tryz.ntmps151
   go_wp2_with fail
   go_ret
   exact ⟨rfl,rfl⟩
def w8 (v:Int):Int:=IntKind.i8.wrap v
theorem w8_eq (n:Int):w8 n=(n+128) % 256 - 128:=by
 unfold w8 IntKind.wrap
 simp [IntKind.bits,IntKind.signed]
 split <;> omega
theorem w8_in (n:Int):InK .i8 (w8 n):=by rw [inK_i8,w8_eq];omega
theorem clamp_any (v lo hi:Int) (w:World) (h0:InK .i8 lo) (h1:InK .i8 hi):Calls Tryz.prog 202 #[.int .i64 v,.int .i8 lo,.int .i8 hi] w fun e w'=>e=.returned (.int .i8 (w8 (heldV v lo hi)))∧w=w':=by
 rw [inK_i8] at h0 h1
 obtain ⟨a1,a2⟩:=h0
 obtain ⟨a3,a4⟩:=h1
 go_enter Tryz.func202,Tryz.ntmps202
 go_wp2_with (go_at_call 225;refine (held_any _ _ _ _).mono ?_;rintro e w2 ⟨rfl,rfl⟩)
 go_ret
 exact ⟨rfl,rfl⟩
def Tensor.ok (t:Tensor):Bool:=decide (0 < elems t.h t.v t.c∧elems t.h t.v t.c=t.data.length)
theorem Sl.far {α:Type} {t:Ty α} {w:World} {S:Nat → Prop} {A:Option Addr} {n cap:Nat} {l:List α} (h:Sl t w S A n cap l) (p:Addr) (u:Value) (hp:∀ b,S b → b ≠ p.block):Sl t (w.setCell p u) S A n cap l :=
 h.keep fun b hb=>Below.heap_setCell w p u b (hp b hb)
structure RingAt (w:World) (g:Nat) (a b:List Int) (m:Int):Prop where
 out:∃ A n c A' n' c',Blk w g 155 #[.slice A n c,.slice A' n' c',.int .i64 m]∧Sl (tInt .i64) w (fun x=>x < w.heap.size∧x ≠ g) A n c a∧Sl (tInt .i64) w (fun x=>x < w.heap.size∧x ≠ g) A' n' c' b
theorem RingAt.later {w w':World} {g:Nat} {a b:List Int} {m:Int} (h:RingAt w g a b m) (hb:Below w.heap.size w w'):RingAt w' g a b m:=by
 obtain ⟨A,n,c,A',n',c',h1,h2,h3⟩:=h.out
 exact ⟨A,n,c,A',n',c',h1.later hb,(h2.below hb (fun _ h=>h.1)).more (fun _ h=>⟨Nat.lt_of_lt_of_le h.1 hb.size,h.2⟩),(h3.below hb (fun _ h=>h.1)).more (fun _ h=>⟨Nat.lt_of_lt_of_le h.1 hb.size,h.2⟩)⟩
structure RingX (X:Nat → Prop) (w:World) (g:Nat) (a b:List Int) (m:Int):Prop where
 out:∃ A n c A' n' c',Blk w g 155 #[.slice A n c,.slice A' n' c',.int .i64 m]∧Sl (tInt .i64) w (fun x=>(x < w.heap.size∧¬ X x)∧x ≠ g) A n c a∧Sl (tInt .i64) w (fun x=>(x < w.heap.size∧¬ X x)∧x ≠ g) A' n' c' b
theorem RingX.at_ {X:Nat → Prop} {w:World} {g:Nat} {a b:List Int} {m:Int} (h:RingX X w g a b m):RingAt w g a b m:=by
 obtain ⟨A,n,c,A',n',c',h1,h2,h3⟩:=h.out
 exact ⟨A,n,c,A',n',c',h1,h2.more (fun _ h=>⟨h.1.1,h.2⟩),h3.more (fun _ h=>⟨h.1.1,h.2⟩)⟩
theorem RingAt.x {X:Nat → Prop} {w:World} {g:Nat} {a b:List Int} {m:Int} (h:RingAt w g a b m) (hX:∀ x,x < w.heap.size → ¬ X x):RingX X w g a b m:=by
 obtain ⟨A,n,c,A',n',c',h1,h2,h3⟩:=h.out
 exact ⟨A,n,c,A',n',c',h1,h2.more (fun _ h=>⟨⟨h.1,hX _ h.1⟩,h.2⟩),h3.more (fun _ h=>⟨⟨h.1,hX _ h.1⟩,h.2⟩)⟩
theorem RingX.later {X:Nat → Prop} {w w':World} {g:Nat} {a b:List Int} {m:Int} (h:RingX X w g a b m) (hb:Below w.heap.size w w'):RingX X w' g a b m:=by
 obtain ⟨A,n,c,A',n',c',h1,h2,h3⟩:=h.out
 exact ⟨A,n,c,A',n',c',h1.later hb,(h2.below hb (fun _ h=>h.1.1)).more (fun _ h=>⟨⟨Nat.lt_of_lt_of_le h.1.1 hb.size,h.1.2⟩,h.2⟩),(h3.below hb (fun _ h=>h.1.1)).more (fun _ h=>⟨⟨Nat.lt_of_lt_of_le h.1.1 hb.size,h.1.2⟩,h.2⟩)⟩
theorem RingAt.inAll {w:World} {g:Nat} {a b:List Int} {m:Int} (h:RingAt w g a b m):∀ i,InK .i64 (b.getD i 0):=by
 obtain ⟨A,n,c,A',n',c',hB,hs,hs'⟩:=h.out
 exact hs'.allK
theorem grown_below {w w1 w2:World} {g:Nat} (h:w.grownBy w1 (some g)) (h2:Below w1.heap.size w1 w2):w.grownBy w2 (some g) :=
 ⟨h2.os.trans h.os,h2.tape.trans h.tape,h2.output.trans h.output,Nat.le_trans h.size h2.size,fun k hk hne=>(h2.block k (Nat.lt_of_lt_of_le hk h.size)).trans (h.block k hk hne)⟩
def aside (a b:List Int):List Int:=if b.length=0 then a else a ++ [b.getD 0 0]
end Go.Proofs.YtppcjcigekoipaaGreat
