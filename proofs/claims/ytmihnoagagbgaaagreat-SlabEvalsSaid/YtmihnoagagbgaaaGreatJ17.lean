/-
  A product is shifted and rounded (layer 2): fix.Round, the document's Round.
  A product is shifted and rounded (layer 2): the document's Round.
  Numbers scaled and held (layer 2): fix.Scale, fix.Held, the document's Held.
  Two numbers joined (layer 20): join.may, join.scaled, join.One, the document's One.
  Which values a node takes (layer 27): takes, there, of; the document's There, second.
  The shape that a node makes (layers 18, 25): the document's Shape.
  Tensors in a row.
  Room (layer 28): arena.Place.
-/
import Derived.Test.YtmihnoagagbgaaaGreatJ15
import Derived.Deep.DeepCutAuto
import Derived.Deep.CutBlock
import Derived.Test.YtmihnoagagbgaaaGreatJ11
import Derived.Test.YtmihnoagagbgaaaGreatJ12
import Derived.Test.YtmihnoagagbgaaaGreatJ16
set_option linter.unusedVariables false
set_option linter.unusedSimpArgs false
set_option maxRecDepth 100000
set_option maxHeartbeats 16000000
namespace Go.Proofs.YtmihnoagagbgaaaGreat
open Go.RowKit Go.ChangeShapes Go.WideShapes Tryz
set_option maxRecDepth 100000
set_option maxHeartbeats 16000000
def dA (m:Nat) (s:Nat):Nat:=m / 2 ^ s+if s=0 then 0 else m / 2 ^ (s - 1) % 2
def ce (v s:Int):Int:=if s < 0 ∨ 62 < s then 0 else if v < 0 then -(dA v.natAbs s.toNat:Int) else (dA v.natAbs s.toNat:Int)
theorem gT (m s:Nat):dA m s≤m:=by
 unfold dA
 split
 ·rename_i h;subst h;simp
 ·rename_i h
  obtain ⟨k,rfl⟩:∃ k,s=k+1:=⟨s - 1,by omega⟩
  rw [Nat.add_sub_cancel,Nat.pow_succ,← Nat.div_div_eq_div_mul]
  have:=Nat.div_le_self m (2 ^ k)
  omega
theorem rW (m k:Nat) (hm:m < 18446744073709551616) (hk:k < 63):bits .and .u64 (m:Int) ((2 ^ k:Nat):Int) / ((2:Int) ^ k)=((m / 2 ^ k % 2:Nat):Int):=by
 have hp:2 ^ k < 18446744073709551616:=Nat.lt_of_lt_of_le (Nat.pow_lt_pow_right dM hk) dM
 rw [bits_and_u64_nat m (2 ^ k) hm hp]
 have:m &&& 2 ^ k=m / 2 ^ k % 2*2 ^ k:=by
  have e:=and_bit_var 64 m (k:Int) oM
  rw [Int.toNat_natCast,Nat.min_eq_left oM,if_neg oM] at e
  have e2:((2:Int) ^ k % 2 ^ 64).toNat=2 ^ k:=by
   have e3:((2:Int) ^ k)=((2 ^ k:Nat):Int):=by simp
   rw [e3]
   generalize 2 ^ k=p at *
   omega
  rw [e2] at e
  exact e
 rw [this,show ((2:Int) ^ k)=((2 ^ k:Nat):Int) by simp,← Int.natCast_ediv,Nat.mul_div_cancel _ (Nat.two_pow_pos k)]
theorem oS (m k:Nat) (hm:m≤9223372036854775808) (hk:k < 63):IntKind.u64.wrap ((m:Int) / 2 ^ (k+1)+bits BinOp.and IntKind.u64 (m:Int) (IntKind.u64.wrap (2 ^ k)) / 2 ^ k)=(dA m (k+1):Int):=by
 have hp:2 ^ k < 18446744073709551616:=Nat.lt_of_lt_of_le (Nat.pow_lt_pow_right dM hk) dM
 have e0:IntKind.u64.wrap (2 ^ k)=((2 ^ k:Nat):Int):=by
  rw [show ((2:Int) ^ k)=((2 ^ k:Nat):Int) by simp,IntKind.wrap_u64]
  generalize 2 ^ k=p at *
  omega
 rw [e0,rW m k oM hk,show ((2:Int) ^ (k+1))=((2 ^ (k+1):Nat):Int) by simp,← Int.natCast_ediv,← Int.natCast_add]
 have e1:m / 2 ^ (k+1)+m / 2 ^ k % 2=dA m (k+1):=by unfold dA;rw [if_neg oM,Nat.add_sub_cancel]
 have:=gT m (k+1)
 rw [e1,IntKind.wrap_u64]
 omega
theorem rB (v s:Int) (w:World) (hv:InK .i64 v):Calls prog 166 #[.int .i64 v,.int .i64 s] w fun e w'=>e=.returned (.int .i64 (ce v s))∧Below w w w':=by
 rw [ah] at hv
 obtain ⟨hv1,hv2⟩:=hv
 unfold ce
 by_cases a1:s < 0
 ·rw [if_pos (.inl a1)]
  go_in
  go_wp2_with fail
  go_step3
  go_wp2_with fail
  rw [Exit.noGoto_ret]
  go_ret
  exact ⟨rfl,qB _ _⟩
 ·by_cases a2:62 < s
  ·rw [if_pos (.inr a2)]
   go_in
   go_wp2_with fail
   go_step3
   go_wp2_with fail
   rw [Exit.noGoto_ret]
   go_ret
   exact ⟨rfl,qB _ _⟩
  ·rw [if_neg oM]
   obtain ⟨n,rfl⟩:∃ n:Nat,s=n:=⟨s.toNat,by omega⟩
   rw [Int.toNat_natCast]
   have hs62:n≤62:=oM
   clear a1 a2
   by_cases b1:v < 0
   ·rw [if_pos b1]
    obtain ⟨m,rfl⟩:∃ m:Nat,v=-(m:Int):=⟨v.natAbs,by omega⟩
    rw [show (-(m:Int)).natAbs=m by omega]
    have b2:¬ m=0:=oM
    have hm:m≤9223372036854775808:=oM
    obtain ⟨x,hx⟩:∃ x:Int,18446744073709551616 - (m:Int)=x:=⟨_,rfl⟩
    have u1:IntKind.u64.wrap (-(m:Int))=x:=by rw [IntKind.wrap_u64];omega
    have u2:IntKind.u64.wrap (-x)=(m:Int):=by rw [IntKind.wrap_u64];omega
    have u5:wrap64 x=-(m:Int):=by rw [← hx];unfold wrap64;omega
    obtain ⟨r,hr⟩:∃ r,dA m n=r:=⟨_,rfl⟩
    have hrm:r≤m:=by rw [← hr];exact gT m n
    obtain ⟨y,hy⟩:∃ y:Int,(-(r:Int)) % 18446744073709551616=y:=⟨_,rfl⟩
    have u3:IntKind.u64.wrap (-(r:Int))=y:=by rw [IntKind.wrap_u64,hy]
    have u4:IntKind.i64.wrap y=-(r:Int):=by rw [IntKind.wrap_i64,← hy];omega
    rw [hr]
    have b3:¬ (0:Int)≤-(m:Int):=oM
    by_cases c1:n=0
    ·subst c1
     obtain rfl:m=r:=by rw [← hr];simp [dA]
     clear hx hy hr
     go_in
     go_wp2_with fail
     go_step3
     go_wp2_with fail
     go_step3
     go_wp2_with fail
     rw [Exit.noGoto_ret]
     go_ret
     exact ⟨by show Ending.returned (.int .i64 (wrap64 x))=_;rw [u5],qB _ _⟩
    ·obtain ⟨k,rfl⟩:∃ k,n=k+1:=⟨n - 1,by omega⟩
     have HR:=zH (oS m k hm oM)
     rw [hr] at HR
     clear hx hy hr
     go_in
     go_wp2_with fail
     go_step3
     go_wp2_with fail
     go_step3
     go_wp2_with fail
     go_quiet (fail)
     rw [HR.o]
     go_wp2_with fail
     rw [Exit.noGoto_ret]
     go_ret
     exact ⟨rfl,am (qB _ _) _⟩
   ·rw [if_neg b1]
    obtain ⟨m,rfl⟩:∃ m:Nat,v=(m:Int):=⟨v.natAbs,by omega⟩
    rw [show ((m:Int)).natAbs=m by omega]
    obtain ⟨r,hr⟩:∃ r,dA m n=r:=⟨_,rfl⟩
    have hrm:r≤m:=by rw [← hr];exact gT m n
    rw [hr]
    by_cases c1:n=0
    ·subst c1
     obtain rfl:m=r:=by rw [← hr];simp [dA]
     clear hr
     go_in
     go_wp2_with fail
     refine eh 0 rfl ?_
     go_wp2_with fail
     go_step3
     refine ⟨rfl,?_⟩
     go_wp2_with fail
     rw [Exit.noGoto_ret]
     go_ret
     exact ⟨rfl,qB _ _⟩
    ·obtain ⟨k,rfl⟩:∃ k,n=k+1:=⟨n - 1,by omega⟩
     have HR:=zH (oS m k oM oM)
     rw [hr] at HR
     clear hr
     go_in
     go_wp2_with fail
     refine eh 0 rfl ?_
     go_wp2_with fail
     go_step3
     refine ⟨rfl,?_⟩
     go_wp2_with fail
     go_quiet (fail)
     rw [HR.o]
     go_wp2_with fail
     rw [Exit.noGoto_ret]
     go_ret
     exact ⟨rfl,am (qB _ _) _⟩
theorem sj (m k:Nat):m / 2 ^ k % 2=if 2 ^ (k+1)≤2*(m % 2 ^ (k+1)) then 1 else 0:=by
 have hp:0 < 2 ^ k:=Nat.two_pow_pos k
 rw [Nat.pow_succ]
 generalize 2 ^ k=p at *
 have h1:=Nat.div_add_mod m (p*2)
 have h2:m % (p*2) < p*2:=Nat.mod_lt _ oM
 have h3:m / p=2*(m / (p*2))+m % (p*2) / p:=by
  have e:m=p*(2*(m / (p*2)))+m % (p*2):=by rw [← Nat.mul_assoc];exact h1.symm
  conv=>lhs;rw [e]
  rw [Nat.mul_add_div hp]
 rw [h3]
 generalize m % (p*2)=b at *
 split
 ·have:b / p=1:=by
   rw [Nat.div_eq_iff hp];omega
  omega
 ·have:b / p=0:=Nat.div_eq_of_lt oM
  omega
theorem sP (m n:Nat):dA m n=m / 2 ^ n+if 1 < 2 ^ n∧2 ^ n - m % 2 ^ n≤m % 2 ^ n then 1 else 0:=by
 unfold dA
 have hb:m % 2 ^ n < 2 ^ n:=Nat.mod_lt _ (Nat.two_pow_pos n)
 cases n with
 | zero=>simp
 | succ k =>
  rw [if_neg oM,Nat.add_sub_cancel,sj]
  have hp:0 < 2 ^ k:=Nat.two_pow_pos k
  have e:2 ^ (k+1)=2 ^ k*2:=Nat.pow_succ 2 k
  generalize m % 2 ^ (k+1)=b at *
  congr 1
  by_cases h:2 ^ (k+1)≤2*b
  ·rw [if_pos h,if_pos oM]
  ·rw [if_neg h,if_neg oM]
theorem gR (v s:Int) (w:World) (hv:InK .i64 v):Calls prog 97 #[.int .i64 v,.int .i64 s] w fun e w'=>e=.returned (.int .i64 (ce v s))∧Below w w w':=by
 rw [ah] at hv
 obtain ⟨hv1,hv2⟩:=hv
 unfold ce
 by_cases a1:s < 0
 ·rw [if_pos (.inl a1)]
  go_in
  go_wp2
  go_ret
  exact ⟨rfl,qB _ _⟩
 ·by_cases a2:62 < s
  ·rw [if_pos (.inr a2)]
   go_in
   go_wp2
   go_ret
   exact ⟨rfl,qB _ _⟩
  ·rw [if_neg oM]
   obtain ⟨n,rfl⟩:∃ n:Nat,s=n:=⟨s.toNat,by omega⟩
   rw [Int.toNat_natCast]
   have hs62:(n:Int)≤62:=oM
   have PB:=zH (fun i (h:i≤n)=>show 1≤2 ^ i∧2 ^ i≤4611686018427387904 from ⟨Nat.two_pow_pos i,lT (Nat.pow_le_pow_right dM (show i≤62 by omega)) dM⟩)
   clear a1 a2
   obtain ⟨res,hres⟩:∃ res:Int,(if v < 0 then -(dA v.natAbs n:Int) else (dA v.natAbs n:Int))=res:=⟨_,rfl⟩
   rw [hres]
   have HR:=zH hres
   clear hres
   go_in
   go_wp2
   go_loopw [5,6] (fun u ii wr=>∃ i:Nat,i≤n∧ii=.int .i64 i∧u=.int .i64 ((2 ^ i:Nat):Int)∧w=wr) (fun _ ii _=>n - (intOf ii).toNat)
   case atStart=>exact ⟨0,zl _,rfl,rfl,rfl⟩
   case round =>
    obtain ⟨i,hi,rfl,rfl,rfl⟩:=hrel
    have hp1:=PB.o i hi
    by_cases hlt:i < n
    ·have p1:(i:Int) < (n:Int):=oM
     have hp2:=PB.o (i+1) hlt
     have HP:=zH (Nat.pow_succ 2 i)
     rw [HP.o] at hp2
     generalize 2 ^ i=p at *
     go_wp2
     exact ⟨⟨i+1,by omega,by go_num,by rw [HP.o];go_num,by trivial⟩,by simp [intOf];omega⟩
    ·obtain rfl:i=n:=oM
     have SE:=zH (sP v.natAbs i)
     generalize 2 ^ i=p at *
     obtain ⟨hp3,hp4⟩:=hp1
     have pz:¬ p=0:=oM
     by_cases b1:v < 0
     ·have hr:=HR.o
      rw [if_pos b1,SE.o] at hr
      obtain ⟨m,rfl⟩:∃ m:Nat,v=-(m:Int):=⟨v.natAbs,by omega⟩
      rw [show (-(m:Int)).natAbs=m by omega] at hr
      have d1:(-(m:Int)).tdiv (p:Int)=-((m / p:Nat):Int):=by rw [Int.neg_tdiv,Int.tdiv_eq_ediv_of_nonneg oM];simp
      have d2:(-(m:Int)).tmod (p:Int)=-((m % p:Nat):Int):=by rw [Int.neg_tmod,Int.tmod_eq_emod_of_nonneg oM];simp
      obtain ⟨a,ha⟩:∃ a,m / p=a:=⟨_,rfl⟩
      obtain ⟨b,hb⟩:∃ b,m % p=b:=⟨_,rfl⟩
      have ha2:a≤m:=by rw [← ha];exact Nat.div_le_self _ _
      have hb2:b < p:=by rw [← hb];exact Nat.mod_lt _ oM
      rw [ha] at d1 hr
      rw [hb] at d2 hr
      have ha3:1 < p → a≤4611686018427387904:=by
       intro h
       rw [← ha]
       have h5:m / p≤m / 2:=Nat.div_le_div_left h dM
       omega
      have ha3:=zH ha3
      clear ha hb SE HR
      have e1:IntKind.i64.wrap (-(a:Int))=-(a:Int):=by rw [IntKind.wrap_i64];omega
      have e2:IntKind.i64.wrap (-(b:Int))=-(b:Int):=by rw [IntKind.wrap_i64];omega
      by_cases c1:b=0
      ·subst c1
       rw [if_neg oM,Nat.add_zero] at hr
       subst hr
       have t1:¬ p≤0:=oM
       have t2:¬ (p:Int)≤0:=oM
       simp only [Int.natCast_zero,Int.neg_zero,Int.ofNat_zero] at d2 e2
       go_wp2_with fail
       go_quiet (fail)
       go_wp2
       go_ret
       exact ⟨rfl,am (qB _ _) _⟩
      ·by_cases c2:p - b≤b
       ·rw [if_pos oM] at hr
        subst hr
        have ha4:=ha3.out oM
        have t1:(p:Int)+-(b:Int)≤(b:Int):=oM
        have t2:(p:Int) - (b:Int)≤(b:Int):=oM
        have t3:0 < b:=oM
        have t4:¬ (0:Int)≤-(b:Int):=oM
        have t5:-(b:Int) < 0:=oM
        go_wp2_with fail
        go_quiet (fail)
        go_wp2
        go_ret
        exact ⟨by show Ending.returned (.int .i64 _)=_;go_num,am (qB _ _) _⟩
       ·rw [if_neg oM,Nat.add_zero] at hr
        subst hr
        have t1:¬ (p:Int)+-(b:Int)≤(b:Int):=oM
        have t2:¬ (p:Int) - (b:Int)≤(b:Int):=oM
        have t3:0 < b:=oM
        have t4:¬ (0:Int)≤-(b:Int):=oM
        have t5:-(b:Int) < 0:=oM
        go_wp2_with fail
        go_quiet (fail)
        go_wp2
        go_ret
        exact ⟨rfl,am (qB _ _) _⟩
     ·have hr:=HR.o
      rw [if_neg b1,SE.o] at hr
      obtain ⟨m,rfl⟩:∃ m:Nat,v=(m:Int):=⟨v.natAbs,by omega⟩
      rw [show ((m:Int)).natAbs=m by omega] at hr
      have d1:(m:Int).tdiv (p:Int)=((m / p:Nat):Int):=by rw [Int.tdiv_eq_ediv_of_nonneg oM];simp
      have d2:(m:Int).tmod (p:Int)=((m % p:Nat):Int):=by rw [Int.tmod_eq_emod_of_nonneg oM];simp
      obtain ⟨a,ha⟩:∃ a,m / p=a:=⟨_,rfl⟩
      obtain ⟨b,hb⟩:∃ b,m % p=b:=⟨_,rfl⟩
      have ha2:a≤m:=by rw [← ha];exact Nat.div_le_self _ _
      have hb2:b < p:=by rw [← hb];exact Nat.mod_lt _ oM
      rw [ha] at d1 hr
      rw [hb] at d2 hr
      have ha3:1 < p → a≤4611686018427387904:=by
       intro h
       rw [← ha]
       have h5:m / p≤m / 2:=Nat.div_le_div_left h dM
       omega
      clear ha hb SE HR
      have e1:IntKind.i64.wrap (a:Int)=(a:Int):=by rw [IntKind.wrap_i64];omega
      have e2:IntKind.i64.wrap (b:Int)=(b:Int):=by rw [IntKind.wrap_i64];omega
      have t3:¬ (b:Int) < 0:=oM
      by_cases c2:p - b≤b
      ·rw [if_pos oM] at hr
       subst hr
       have t1:(p:Int) - (b:Int)≤(b:Int):=oM
       have t2:1 < p:=oM
       have ha4:=ha3 t2
       clear ha3
       go_wp2_with fail
       go_quiet (fail)
       go_wp2
       go_ret
       exact ⟨by show Ending.returned (.int .i64 _)=_;go_num,am (qB _ _) _⟩
      ·rw [if_neg oM,Nat.add_zero] at hr
       subst hr
       have t1:¬ (p:Int) - (b:Int)≤(b:Int):=oM
       clear ha3
       go_wp2_with fail
       go_quiet (fail)
       go_wp2
       go_ret
       exact ⟨rfl,am (qB _ _) _⟩
end Go.Proofs.YtmihnoagagbgaaaGreat
namespace Go.Proofs.YtmihnoagagbgaaaGreat
open Go.RowKit Go.ChangeShapes Go.WideShapes Fx Tryz
set_option maxRecDepth 100000
set_option maxHeartbeats 16000000
theorem eu (v s:Int) (b:Nat) (h:v.natAbs≤b):(ce v s).natAbs≤b:=by
 unfold ce
 have:=gT v.natAbs s.toNat
 split
 ·simp
 ·split <;> omega
theorem jA {a b:Int} (ha:InK .i32 a) (hb:InK .i32 b):(a*b).natAbs≤4611686018427387904:=by
 rw [bE] at ha hb
 exact lT (natAbs_mul_le (m:=2147483648) (n:=2147483648) oM oM) dM
theorem kB (acc m s:Int) (w:World) (ha:InK .i32 acc) (hm:InK .i32 m) :
  Calls prog 151 #[.int .i32 acc,.int .i32 m,.int .i64 s] w fun e w'=>e=.returned (.int .i64 (ce (acc*m) s))∧Below w w w':=by
 have hp:=jA ha hm
 rw [bE] at ha hm
 obtain ⟨a1,a2⟩:=ha
 obtain ⟨m1,m2⟩:=hm
 obtain ⟨p,hpp⟩:∃ p,acc*m=p:=⟨_,rfl⟩
 rw [hpp] at hp ⊢
 have e1:IntKind.i64.wrap (acc*m)=p:=by rw [hpp];exact wJ
 have RA:=zH (fun w=>rB p s w (by rw [ah];omega))
 have e3:p≤4611686018427387904:=oM
 have e4:-4611686018427387904≤p:=oM
 clear hp
 go_in
 go_wp2_with (go_at_call 166;refine qM (RA.o _) fun w2 hb=>?_)
 go_ret
 exact ⟨rfl,hb⟩
def cO (acc m s z lo hi:Int):Int:=if aq m s=true then w8 (eH (ce (acc*m) s+z) lo hi) else 0
theorem uq (acc m s z lo hi:Int):InK .i8 (cO acc m s z lo hi):=by
 unfold cO
 split
 ·exact jM _
 ·decide
theorem iM (acc m s z lo hi:Int) (w:World) (ha:InK .i32 acc) (hm:InK .i32 m) (hz:InK .i8 z) (hlo:InK .i8 lo) (hhi:InK .i8 hi) :
  Calls prog 152 #[.int .i32 acc,.agg #[.int .i32 m,.int .i64 s,.int .i8 z],.int .i8 lo,.int .i8 hi] w fun e w'=>e=.returned (.int .i8 (cO acc m s z lo hi))∧Below w w w':=by
 have hp:=eu (acc*m) s _ (jA ha hm)
 have QR:=zH (fun w=>cR m s z w)
 have SC:=zH (fun w=>kB acc m s w ha hm)
 have HH:=zH (show cO acc m s z lo hi=if aq m s=true then w8 (eH (ce (acc*m) s+z) lo hi) else 0 from rfl)
 obtain ⟨r,hr⟩:∃ r,ce (acc*m) s=r:=⟨_,rfl⟩
 rw [hr] at hp SC HH
 rw [aT] at hz
 obtain ⟨z1,z2⟩:=hz
 have e1:IntKind.i64.wrap (r+z)=r+z:=wJ
 have e2:IntKind.i64.wrap z=z:=wJ
 have CL:=zH (fun w=>jZ (r+z) lo hi w hlo hhi)
 obtain ⟨q,hq⟩:∃ q,aq m s=q:=⟨_,rfl⟩
 rw [hq] at QR HH
 have FR:=zW w
 obtain ⟨w1,yw1,BQ,FR⟩:=nF FR #[.int .i32 m,.int .i64 s,.int .i8 z] 40
 obtain ⟨d0,d1,d2⟩:=uc3 BQ 0 1 2
 clear hr hq ha hm hlo hhi
 cases q with
 | false =>
  rw [if_neg dM] at HH
  rw [HH.o]
  go_in
  go_wp2_with (go_at_call 81;refine qM (QR.o _) fun w2 hb=>?_)
  go_ret
  exact ⟨rfl,(FR.o.fut hb).out⟩
 | true =>
  rw [if_pos rfl] at HH
  rw [HH.o]
  go_in
  go_wp2_with (go_at_call 81;refine qM (QR.o _) fun w2 hb=>?_)
  obtain ⟨FR,BQ⟩:=uz2 hb FR BQ
  clear d0 d1 d2 yw1 hb
  have d0:∀ q:Ext w2,q.1.cell? ⟨w.heap.size,0,none⟩=some (.int .i32 m):=fun q=>(BQ.o.ext q).cell 0
  have d1:∀ q:Ext w2,q.1.cell? ⟨w.heap.size,1,none⟩=some (.int .i64 s):=fun q=>(BQ.o.ext q).cell 1
  have d2:∀ q:Ext w2,q.1.cell? ⟨w.heap.size,2,none⟩=some (.int .i8 z):=fun q=>(BQ.o.ext q).cell 2
  have E1:=zH (fun q:Ext w2=>aR q (SC.o q.1))
  have E2:=zH (fun q:Ext w2=>aR q ((CL.o q.1).mono (fun e w' h=>⟨h.1,by rw [← h.2];exact qB _ _⟩)))
  refine aB w2 kM kM (qB _ _) ?_
  repeat (go_big_quiet_step (first|(exact E1.o _)|(exact E2.o _)))
  refine wpQuiet_nil ?_
  rintro _ ⟨⟨w3,hB⟩,rfl⟩
  go_wp2
  go_ret
  exact ⟨rfl,(FR.o.fut hB).out⟩
theorem il (acc m s z lo hi:Int) (w:World) (ha:InK .i32 acc) (hm:InK .i32 m) (hz:InK .i8 z) (hlo:InK .i8 lo) (hhi:InK .i8 hi) :
  Calls prog 99 #[.int .i32 acc,.agg #[.int .i32 m,.int .i64 s,.int .i8 z],.int .i8 lo,.int .i8 hi] w fun e w'=>e=.returned (.int .i8 (cO acc m s z lo hi))∧Below w w w':=by
 have hp:=eu (acc*m) s _ (jA ha hm)
 have hp0:=jA ha hm
 have QR:=zH (fun w=>bK m s z w)
 obtain ⟨pm,hpm⟩:∃ p,acc*m=p:=⟨_,rfl⟩
 rw [hpm] at hp hp0
 have RA:=zH (fun w=>gR pm s w (by rw [ah];omega))
 have HH:=zH (show cO acc m s z lo hi=if aq m s=true then w8 (eH (ce (acc*m) s+z) lo hi) else 0 from rfl)
 rw [hpm] at HH
 obtain ⟨r,hr⟩:∃ r,ce pm s=r:=⟨_,rfl⟩
 rw [hr] at hp RA HH
 rw [aT] at hz hlo hhi
 rw [bE] at ha hm
 obtain ⟨z1,z2⟩:=hz
 obtain ⟨l1,l2⟩:=hlo
 obtain ⟨h1,h2⟩:=hhi
 obtain ⟨a1,a2⟩:=ha
 obtain ⟨m1,m2⟩:=hm
 have e1:IntKind.i64.wrap (r+z)=r+z:=wJ
 have e2:IntKind.i64.wrap z=z:=wJ
 have e3:IntKind.i64.wrap (acc*m)=pm:=by rw [hpm];exact wJ
 have e4:IntKind.i64.wrap acc=acc:=wJ
 have e5:IntKind.i64.wrap m=m:=wJ
 have CL:=zH (fun w=>kt (r+z) lo hi w)
 have W8:=zH (show w8 (eH (r+z) lo hi)=IntKind.i8.wrap (eH (r+z) lo hi) from rfl)
 rw [W8.o] at HH
 obtain ⟨q,hq⟩:∃ q,aq m s=q:=⟨_,rfl⟩
 rw [hq] at QR HH
 have FR:=zW w
 obtain ⟨w1,yw1,BQ,FR⟩:=nF FR #[.int .i32 m,.int .i64 s,.int .i8 z] 40
 obtain ⟨d0,d1,d2⟩:=uc3 BQ 0 1 2
 clear hr hq hpm
 cases q with
 | false =>
  rw [if_neg dM] at HH
  rw [HH.o]
  go_in
  go_wp2_with (go_at_call 55;refine qM (QR.o _) fun w2 hb=>?_)
  go_ret
  exact ⟨rfl,(FR.o.fut hb).out⟩
 | true =>
  rw [if_pos rfl] at HH
  rw [HH.o]
  go_in
  go_wp2_with (go_at_call 55;refine qM (QR.o _) fun w2 hb=>?_)
  obtain ⟨FR,BQ⟩:=uz2 hb FR BQ
  clear d0 d1 d2 yw1 hb
  have d0:∀ q:Ext w2,q.1.cell? ⟨w.heap.size,0,none⟩=some (.int .i32 m):=fun q=>(BQ.o.ext q).cell 0
  have d1:∀ q:Ext w2,q.1.cell? ⟨w.heap.size,1,none⟩=some (.int .i64 s):=fun q=>(BQ.o.ext q).cell 1
  have d2:∀ q:Ext w2,q.1.cell? ⟨w.heap.size,2,none⟩=some (.int .i8 z):=fun q=>(BQ.o.ext q).cell 2
  have E1:=zH (fun q:Ext w2=>aR q (RA.o q.1))
  refine aB w2 kM kM (qB _ _) ?_
  repeat (go_big_quiet_step ((exact E1.o _)))
  refine wpQuiet_nil ?_
  rintro _ ⟨⟨w3,hB⟩,rfl⟩
  go_wp2_with (go_at_call 98;refine (CL.o _).mono ?_;rintro e w4 ⟨rfl,rfl⟩)
  go_ret
  exact ⟨rfl,(FR.o.fut hB).out⟩
def cG (d:af) (x y:Int):Int:=w8 (eH (ce ((x - d.za)*d.qm) d.qs+ce ((y - d.zb)*d.rm) d.rs+d.qz) d.lo d.hi)
theorem ma (d:af) (x y:Int):InK .i8 (cG d x y):=jM _
def ie (d:af):Bool:=aq d.qm d.qs && aq d.rm d.rs
theorem lx {a b m:Int} (ha:InK .i8 a) (hb:InK .i8 b) (hm:InK .i32 m):((a - b)*m).natAbs≤547608330240:=by
 rw [aT] at ha hb
 rw [bE] at hm
 exact lT (natAbs_mul_le (m:=255) (n:=2147483648) oM oM) dM
theorem iN (d:af) (W:QA) (nw cw:Nat) (B:QA) (nb cb:Nat) (w:World) :
  Calls prog 85 #[.agg (nD d W nw cw B nb cb)] w fun e w'=>e=.returned (.bool (ie d))∧Below w w w':=by
 have Q1:=zH (fun w=>cR d.qm d.qs d.qz w)
 have Q2:=zH (fun w=>cR d.rm d.rs d.rz w)
 have FR:=zW w
 obtain ⟨w1,yw1,BN,FR⟩:=nF FR (nD d W nw cw B nb cb) 42
 unfold ie
 obtain ⟨q,hq⟩:∃ q,aq d.qm d.qs=q:=⟨_,rfl⟩
 obtain ⟨r,hr⟩:∃ r,aq d.rm d.rs=r:=⟨_,rfl⟩
 rw [hq] at Q1 ⊢
 rw [hr] at Q2 ⊢
 clear hq hr
 cases q with
 | false =>
  go_in
  go_wp2_with (first|(refine lP #[.int .i32 d.qm,.int .i64 d.qs,.int .i8 d.qz] BN.o ?_)|(go_at_call 81;refine qM (Q1.o _) fun w2 hb=>?_))
  go_ret
  exact ⟨rfl,(FR.o.fut hb).out⟩
 | true =>
  go_in
  go_wp2_with (first|(refine lP #[.int .i32 d.qm,.int .i64 d.qs,.int .i8 d.qz] BN.o ?_)|(refine lP #[.int .i32 d.rm,.int .i64 d.rs,.int .i8 d.rz] BN.o ?_)|(go_at_call 81;first|(with_reducible refine (Q1.o _).mono ?_;rintro e w2 ⟨rfl,hb⟩;obtain ⟨FR,BN⟩:=uz2 hb FR BN;clear hb yw1;obtain ⟨c14,c15,c16⟩:=uc3 BN 14 15 16;simp only [gX] at c14 c15 c16)|(with_reducible refine (Q2.o _).mono ?_;rintro e w3 ⟨rfl,hb⟩)))
  go_ret
  exact ⟨by cases r <;> rfl,(FR.o.fut hb).out⟩
theorem gF (x zz m s z:Int) (w:World) (hx:InK .i8 x) (hz:InK .i8 zz) (hm:InK .i32 m) :
  Calls prog 124 #[.int .i8 x,.int .i8 zz,.agg #[.int .i32 m,.int .i64 s,.int .i8 z]] w fun e w'=>e=.returned (.int .i64 (ce ((x - zz)*m) s))∧Below w w w':=by
 rw [aT] at hx hz
 obtain ⟨x1,x2⟩:=hx
 obtain ⟨z1,z2⟩:=hz
 have SC:=zH (fun w=>kB (x - zz) m s w (by rw [bE];omega) hm)
 have FR:=zW w
 obtain ⟨w1,yw1,BQ,FR⟩:=nF FR #[.int .i32 m,.int .i64 s,.int .i8 z] 40
 obtain ⟨d0,d1⟩:=uc2 BQ 0 1
 clear hm
 go_in
 go_wp2_with (go_at_call 151;refine qM (SC.o _) fun w2 hb=>?_)
 go_ret
 exact ⟨rfl,(FR.o.fut hb).out⟩
theorem nt (x y:Int) (d:af) (W:QA) (nw cw:Nat) (B:QA) (nb cb:Nat) (w:World) (hx:InK .i8 x) (hy:InK .i8 y) (hd:aE d) (hm:ie d=true) :
  Calls prog 87 #[.int .i8 x,.int .i8 y,.agg (nD d W nw cw B nb cb)] w fun e w'=>e=.returned (.int .i8 (cG d x y))∧Below w w w':=by
 have b1:=eu _ d.qs _ (lx hx hd.za hd.qm)
 have b2:=eu _ d.rs _ (lx hy hd.zb hd.rm)
 have MA:=zH (fun w=>iN d W nw cw B nb cb w)
 rw [hm] at MA
 have S1:=zH (fun w=>gF x d.za d.qm d.qs d.qz w hx hd.za hd.qm)
 have S2:=zH (fun w=>gF y d.zb d.rm d.rs d.rz w hy hd.zb hd.rm)
 unfold cG
 obtain ⟨r1,h1⟩:∃ r,ce ((x - d.za)*d.qm) d.qs=r:=⟨_,rfl⟩
 obtain ⟨r2,h2⟩:∃ r,ce ((y - d.zb)*d.rm) d.rs=r:=⟨_,rfl⟩
 rw [h1] at S1 b1 ⊢
 rw [h2] at S2 b2 ⊢
 have hz:=hd.qz
 rw [aT] at hz
 obtain ⟨z1,z2⟩:=hz
 have e1:IntKind.i64.wrap (r1+r2)=r1+r2:=wJ
 have e2:IntKind.i64.wrap d.qz=d.qz:=wJ
 have e3:IntKind.i64.wrap (r1+r2+d.qz)=r1+r2+d.qz:=wJ
 have CL:=zH (fun w=>jZ (r1+r2+d.qz) d.lo d.hi w hd.lo hd.hi)
 have FR:=zW w
 obtain ⟨w1,yw1,BN,FR⟩:=nF FR (nD d W nw cw B nb cb) 42
 clear h1 h2 hm hx hy hd
 go_in
 go_wp2_with (first|(refine lG BN.o ?_)|(go_at_call 85;refine qM (MA.o _) fun w2 hb=>?_;obtain ⟨FR,BN⟩:=uz2 hb FR BN;clear hb yw1))
 have c7:∀ q:Ext w2,q.1.cell? ⟨w.heap.size,7,none⟩=some (.int .i8 d.za):=fun q=>(BN.o.ext q).cell 7
 have c8:∀ q:Ext w2,q.1.cell? ⟨w.heap.size,8,none⟩=some (.int .i8 d.zb):=fun q=>(BN.o.ext q).cell 8
 have c11:∀ q:Ext w2,q.1.cell? ⟨w.heap.size,11,none⟩=some (.int .i32 d.qm):=fun q=>(BN.o.ext q).cell 11
 have c12:∀ q:Ext w2,q.1.cell? ⟨w.heap.size,12,none⟩=some (.int .i64 d.qs):=fun q=>(BN.o.ext q).cell 12
 have c13:∀ q:Ext w2,q.1.cell? ⟨w.heap.size,13,none⟩=some (.int .i8 d.qz):=fun q=>(BN.o.ext q).cell 13
 have c14:∀ q:Ext w2,q.1.cell? ⟨w.heap.size,14,none⟩=some (.int .i32 d.rm):=fun q=>(BN.o.ext q).cell 14
 have c15:∀ q:Ext w2,q.1.cell? ⟨w.heap.size,15,none⟩=some (.int .i64 d.rs):=fun q=>(BN.o.ext q).cell 15
 have c16:∀ q:Ext w2,q.1.cell? ⟨w.heap.size,16,none⟩=some (.int .i8 d.rz):=fun q=>(BN.o.ext q).cell 16
 have c17:∀ q:Ext w2,q.1.cell? ⟨w.heap.size,17,none⟩=some (.int .i8 d.lo):=fun q=>(BN.o.ext q).cell 17
 have c18:∀ q:Ext w2,q.1.cell? ⟨w.heap.size,18,none⟩=some (.int .i8 d.hi):=fun q=>(BN.o.ext q).cell 18
 have E1:=zH (fun q:Ext w2=>aR q (S1.o q.1))
 have E2:=zH (fun q:Ext w2=>aR q (S2.o q.1))
 have E3:=zH (fun q:Ext w2=>aR q ((CL.o q.1).mono (fun e w' h=>⟨h.1,by rw [← h.2];exact qB _ _⟩)))
 refine aB w2 kM kM (qB _ _) ?_
 repeat (go_big_quiet_step (first|(with_reducible exact E1.o _)|(with_reducible exact E2.o _)|(with_reducible exact E3.o _)))
 refine wpQuiet_nil ?_
 rintro _ ⟨⟨w3,hB⟩,rfl⟩
 go_wp2
 go_ret
 exact ⟨rfl,(FR.o.fut hB).out⟩
theorem lQ17 {P:Program} {ops:Array Oper} {rest:List Oper} {op:Oper} {a:Act} {w:World} {Q:Exit → Act → World → Prop} {x:Operand} {g off:Nat} {e:TypeId} {cs:Array Value} (ty:TypeId) (vs:Array Value) (hb:Blk w g e cs) (h:wpList P ops Q rest (a.put op.dst (.agg vs)) w) (hgd:op.guard=none:=by rfl) (ho:op.op=.load ty x:=by rfl) (hx:a.eval x=.pointer (some ⟨g,off,none⟩):=by rfl) (hi:(P.info? ty).map (·.size)=some vs.size:=by kernel_rfl) (hd:(P.underlying ty).any (·.isRow)=true:=by kernel_rfl) (hv:(cs.toList.drop off).take vs.size=vs.toList:=by rfl):wpList P ops Q (op :: rest) a w:=lP vs hb h hgd ho hx hi hd hv
theorem mJ (x y:Int) (d:af) (W:QA) (nw cw:Nat) (B:QA) (nb cb:Nat) (w:World) (hx:InK .i8 x) (hy:InK .i8 y) (hd:aE d) (hm:ie d=true) :
  Calls prog 63 #[.int .i8 x,.int .i8 y,.agg (nD d W nw cw B nb cb)] w fun e w'=>e=.returned (.int .i8 (cG d x y))∧Below w w w':=by
 have p1:=lx hx hd.za hd.qm
 have p2:=lx hy hd.zb hd.rm
 have b1:=eu _ d.qs _ p1
 have b2:=eu _ d.rs _ p2
 have Q1:=zH (fun w=>bK d.qm d.qs d.qz w)
 have Q2:=zH (fun w=>bK d.rm d.rs d.rz w)
 unfold ie at hm
 simp only [Bool.and_eq_true] at hm
 rw [hm.1] at Q1
 rw [hm.2] at Q2
 unfold cG
 obtain ⟨m1,k1⟩:∃ r,(x - d.za)*d.qm=r:=⟨_,rfl⟩
 obtain ⟨m2,k2⟩:∃ r,(y - d.zb)*d.rm=r:=⟨_,rfl⟩
 rw [k1] at b1 p1 ⊢
 rw [k2] at b2 p2 ⊢
 have R1:=zH (fun w=>gR m1 d.qs w (by rw [ah];omega))
 have R2:=zH (fun w=>gR m2 d.rs w (by rw [ah];omega))
 obtain ⟨r1,h1⟩:∃ r,ce m1 d.qs=r:=⟨_,rfl⟩
 obtain ⟨r2,h2⟩:∃ r,ce m2 d.rs=r:=⟨_,rfl⟩
 rw [h1] at R1 b1 ⊢
 rw [h2] at R2 b2 ⊢
 have hz:=hd.qz
 have hza:=hd.za
 have hzb:=hd.zb
 have hlo:=hd.lo
 have hhi:=hd.hi
 have hqm:=hd.qm
 have hrm:=hd.rm
 rw [aT] at hz hza hzb hlo hhi hx hy
 rw [bE] at hqm hrm
 obtain ⟨z1,z2⟩:=hz
 obtain ⟨z3,z4⟩:=hza
 obtain ⟨z5,z6⟩:=hzb
 obtain ⟨z7,z8⟩:=hlo
 obtain ⟨z9,z10⟩:=hhi
 obtain ⟨y1,y2⟩:=hx
 obtain ⟨y3,y4⟩:=hy
 obtain ⟨y5,y6⟩:=hqm
 obtain ⟨y7,y8⟩:=hrm
 have p3:-547608330240≤m1∧m1≤547608330240:=oM
 have p4:-547608330240≤m2∧m2≤547608330240:=oM
 have p5:-547608330240≤r1∧r1≤547608330240:=oM
 have p6:-547608330240≤r2∧r2≤547608330240:=oM
 obtain ⟨p3,p3'⟩:=p3
 obtain ⟨p4,p4'⟩:=p4
 obtain ⟨p5,p5'⟩:=p5
 obtain ⟨p6,p6'⟩:=p6
 clear p1 p2 b1 b2 h1 h2 hm hd
 have CL:=zH (fun w=>kt (r1+r2+d.qz) d.lo d.hi w)
 have FR:=zW w
 obtain ⟨w1,yw1,BN,FR⟩:=nF FR (nD d W nw cw B nb cb) 42
 go_in
 go_wp2_with (first|(refine lQ17 40 #[.int .i32 d.qm,.int .i64 d.qs,.int .i8 d.qz] BN.o ?_)|(refine lQ17 40 #[.int .i32 d.rm,.int .i64 d.rs,.int .i8 d.rz] BN.o ?_)|(go_at_call 55;first|(with_reducible refine (Q1.o _).mono ?_;rintro e w2 ⟨rfl,hb⟩;obtain ⟨FR,BN⟩:=uz2 hb FR BN;clear hb;obtain ⟨c14,c15,c16⟩:=uc3 BN 14 15 16;simp only [gX] at c14 c15 c16)|(with_reducible refine (Q2.o _).mono ?_;rintro e w3 ⟨rfl,hb⟩;obtain ⟨FR,BN⟩:=uz2 hb FR BN;clear hb c14 c15 c16 yw1;obtain ⟨c7,c11,c12⟩:=uc3 BN 7 11 12)))
 go_wp2_with (go_at_call 97;with_reducible refine (R1.o _).mono ?_;rintro e w4 ⟨rfl,hb⟩;obtain ⟨FR,BN⟩:=uz2 hb FR BN;clear hb c7 c11 c12;obtain ⟨c8,c14,c15⟩:=uc3 BN 8 14 15)
 go_wp2_with (go_at_call 97;with_reducible refine (R2.o _).mono ?_;rintro e w5 ⟨rfl,hb⟩;obtain ⟨FR,BN⟩:=uz2 hb FR BN;clear hb c8 c14 c15;obtain ⟨c13,c17,c18⟩:=uc3 BN 13 17 18)
 go_wp2_with (go_at_call 98;refine (CL.o _).mono ?_;rintro e w6 ⟨rfl,rfl⟩)
 go_ret
 exact ⟨rfl,FR.u⟩
end Go.Proofs.YtmihnoagagbgaaaGreat
namespace Go.Proofs.YtmihnoagagbgaaaGreat
open Go.RowKit Go.ChangeShapes Go.WideShapes Tryz
set_option maxRecDepth 100000
set_option maxHeartbeats 16000000
def du (d:af):List Int:=if d.kind=6 then [d.a,d.b] else [d.a]
def aU (d:af):Int:=if d.kind=6 then d.b else d.a
def bm (d:af) (many:Int):Bool:=decide (0≤d.a∧d.a < many) && (decide (d.kind ≠ 6) || decide (0≤d.b∧d.b < many))
theorem iz (d:af) (W:QA) (nw cw:Nat) (B:QA) (nb cb:Nat) (w:World) (ha:InK .i64 d.a) (hb:InK .i64 d.b) :
  Calls prog 43 #[.agg (nD d W nw cw B nb cb)] w (RetSl (aa .i64) w (du d)):=by
 have FR:=zW w
 obtain ⟨w1,yw1,BN,FR⟩:=nF FR (nD d W nw cw B nb cb) 42
 obtain ⟨c0,c1,c2⟩:=uc3 BN 0 1 2
 have l1:w.heap.size≤w1.heap.size:=by rw [← yw1];simp
 have HA:=zH ha
 have HB:=zH hb
 clear ha hb
 unfold du
 by_cases k6:d.kind=6
 ·have t6:(d.kind == 6)=true:=by simpa using k6
  rw [if_pos k6]
  clear k6
  go_in
  go_wp2
  go_ret
  refine ⟨some ⟨w1.heap.size,0,none⟩,2,2,rfl,Sl.lit [d.a,d.b] (eX _ _ _ rfl) rfl (by intro x hx;simp at hx;rcases hx with rfl|rfl;exact HA.o;exact HB.o) ⟨l1,by simp⟩ rfl rfl (by simp [maxLen]),FR.u.alloc l1 _⟩
 ·have t6:(d.kind == 6)=false:=by simpa using k6
  rw [if_neg k6]
  clear k6
  go_in
  go_wp2
  go_ret
  refine ⟨some ⟨w1.heap.size,0,none⟩,1,1,rfl,Sl.lit [d.a] (eX _ _ _ rfl) rfl (by intro x hx;simp at hx;subst hx;exact HA.o) ⟨l1,by simp⟩ rfl rfl (by simp [maxLen]),FR.u.alloc l1 _⟩
theorem tZ (d:af) (W:QA) (nw cw:Nat) (B:QA) (nb cb:Nat) (w:World) (ha:InK .i64 d.a) (hb:InK .i64 d.b) :
  Calls prog 71 #[.agg (nD d W nw cw B nb cb)] w fun e w'=>e=.returned (.int .i64 (aU d))∧Below w w w':=by
 obtain ⟨r,hr⟩:∃ r,aU d=r:=⟨_,rfl⟩
 rw [hr]
 have TK:=zH (fun w=>iz d W nw cw B nb cb w ha hb)
 have FR:=zW w
 obtain ⟨w1,yw1,BN,FR⟩:=nF FR (nD d W nw cw B nb cb) 42
 unfold du at TK
 unfold aU at hr
 by_cases k6:d.kind=6
 ·rw [if_pos k6] at TK hr
  have R:=zH hr
  clear k6 hr ha hb
  go_in
  go_wp2_with (refine lG BN.o ?_)
  refine (TK.o _).mono ?_
  rintro e w2 ⟨A,n,cap,rfl,hs,hb⟩
  obtain rfl:n=2:=hs.n_eq.symm
  obtain ⟨b,off,rfl,_,_,c1,_⟩:=hs.int_at 1 dM
  rw [show [d.a,d.b].getD 1 0=d.b from rfl] at c1
  replace FR:=zF hb FR
  clear hb
  clear hs yw1
  go_wp2
  go_ret
  exact ⟨by rw [← R.o];rfl,FR.u⟩
 ·rw [if_neg k6] at TK hr
  have R:=zH hr
  clear k6 hr ha hb
  go_in
  go_wp2_with (refine lG BN.o ?_)
  refine (TK.o _).mono ?_
  rintro e w2 ⟨A,n,cap,rfl,hs,hb⟩
  obtain rfl:n=1:=hs.n_eq.symm
  obtain ⟨b,off,rfl,_,_,c1,_⟩:=hs.int_at 0 dM
  rw [show [d.a].getD 0 0=d.a from rfl,Nat.add_zero] at c1
  replace FR:=zF hb FR
  clear hb
  clear hs yw1
  go_wp2
  go_ret
  exact ⟨by rw [← R.o];rfl,FR.u⟩
theorem kG (d:af) (W:QA) (nw cw:Nat) (B:QA) (nb cb:Nat) (many:Int) (w:World) (ha:InK .i64 d.a) (hb:InK .i64 d.b) :
  Calls prog 42 #[.agg (nD d W nw cw B nb cb),.int .i64 many] w fun e w'=>e=.returned (.bool (bm d many))∧Below w w w':=by
 obtain ⟨r,hr⟩:∃ r,bm d many=r:=⟨_,rfl⟩
 rw [hr]
 have TK:=zH (fun w=>iz d W nw cw B nb cb w ha hb)
 have FR:=zW w
 obtain ⟨w1,yw1,BN,FR⟩:=nF FR (nD d W nw cw B nb cb) 42
 obtain ⟨l,hl⟩:∃ l,du d=l:=⟨_,rfl⟩
 rw [hl] at TK
 have R:=zH (show (r=true ↔ ∀ j,j < l.length → 0≤l.getD j 0∧l.getD j 0 < many)∧l.length≤2 by
  rw [← hr,← hl]
  unfold bm du
  by_cases k6:d.kind=6
  ·rw [if_pos k6]
   refine ⟨?_,by simp⟩
   simp only [k6,Bool.and_eq_true,Bool.or_eq_true,decide_eq_true_eq,ne_eq,not_true_eq_false,false_or]
   constructor
   ·intro h j hj
    match j,hj with
    | 0,_=>exact h.1
    | 1,_=>exact h.2
   ·intro h;exact ⟨h 0 sM,h 1 sM⟩
  ·rw [if_neg k6]
   refine ⟨?_,by simp⟩
   simp only [k6,Bool.and_eq_true,Bool.or_eq_true,decide_eq_true_eq,ne_eq,not_false_eq_true,true_or,and_true]
   constructor
   ·intro h j hj
    match j,hj with
    | 0,_=>exact h
   ·intro h;exact h 0 sM)
 clear hl hr ha hb
 go_in
 go_wp2_with (refine lG BN.o ?_)
 refine (TK.o _).mono ?_
 rintro e w2 ⟨A,n,cap,rfl,hs,hb⟩
 have hn:=hs.n_eq
 have HS:=zH hs
 have hn2:=R.o.2
 rw [hn] at hn2
 replace FR:=zF hb FR
 clear hb
 have HN:=zH hn
 clear hs yw1 TK hn
 go_wp2
 go_loopw [10] (fun i wr=>∃ k:Nat,k≤n∧i=.int .i64 k∧Below w2 w2 wr∧∀ j,j < k → 0≤l.getD j 0∧l.getD j 0 < many) (fun i _=>n - (intOf i).toNat)
 case atStart=>exact ⟨0,zl _,rfl,qB _ _,fun j hj=>absurd hj (Nat.not_lt_zero _)⟩
 case round =>
  obtain ⟨k,hk,rfl,hb,hq⟩:=hrel
  have HQ:=zH hq
  have HB:=zH hb
  clear hq hb
  by_cases hlt:k < n
  ·obtain ⟨b,off,rfl,_,_,c0,_⟩:=(HS.o.below HB.o (fun _ h=>h.2)).int_at k hlt
   have p1:(k:Int) < (n:Int):=oM
   obtain ⟨x,hx⟩:∃ x,l.getD k 0=x:=⟨_,rfl⟩
   rw [hx] at c0
   have HX:=zH hx
   clear hx
   by_cases g:0≤x∧x < many
   ·have g1:decide (x < 0)=false:=by simp;omega
    have g2:decide (many≤x)=false:=by simp;omega
    have G:=zH g
    clear g
    go_wp2_with fail
    refine ⟨⟨k+1,by omega,by go_num,HB.o,fun j hj=>?_⟩,by simp [intOf];omega⟩
    by_cases hjk:j < k
    ·exact HQ.o j hjk
    ·obtain rfl:j=k:=oM
     rw [HX.o];exact G.o
   ·have RF:r=false:=by
     cases hr:r with
     | false=>rfl
     | true =>
      have h:=R.o.1.1 hr k (by rw [HN.o];exact hlt)
      rw [HX.o] at h
      exact absurd h g
    have RF':=zH RF
    clear RF
    by_cases g1:x < 0
    ·have t1:decide (x < 0)=true:=qT g1
     clear g g1
     go_wp2
     go_ret
     exact ⟨by rw [RF'.o];rfl,ag HB.o FR.u⟩
    ·have t1:decide (x < 0)=false:=dF g1
     have t2:decide (many≤x)=true:=by simp;omega
     clear g g1
     go_wp2
     go_ret
     exact ⟨by rw [RF'.o];rfl,ag HB.o FR.u⟩
  ·obtain rfl:k=n:=oM
   have RT:=zH (R.o.1.2 (by rw [HN.o];exact HQ.o))
   clear hlt hk
   go_wp2
   go_ret
   exact ⟨by rw [RT.o];rfl,ag HB.o FR.u⟩
theorem jI (d:af) (W:QA) (nw cw:Nat) (B:QA) (nb cb:Nat) (w:World) :
  Calls prog 18 #[.agg (nD d W nw cw B nb cb)] w fun e w'=>e=.returned (.int .i64 (aU d))∧Below w w w':=by
 obtain ⟨r,hr⟩:∃ r,aU d=r:=⟨_,rfl⟩
 rw [hr]
 unfold aU at hr
 have FR:=zW w
 obtain ⟨w1,yw1,BN,FR⟩:=nF FR (nD d W nw cw B nb cb) 42
 obtain ⟨c0,c1,c2⟩:=uc3 BN 0 1 2
 by_cases k6:d.kind=6
 ·have t6:(d.kind == 6)=true:=by simpa using k6
  rw [if_pos k6] at hr
  have R:=zH hr
  clear k6 hr
  go_in
  go_wp2
  go_ret
  exact ⟨by rw [← R.o];rfl,FR.u⟩
 ·have t6:(d.kind == 6)=false:=by simpa using k6
  rw [if_neg k6] at hr
  have R:=zH hr
  clear k6 hr
  go_in
  go_wp2
  go_ret
  exact ⟨by rw [← R.o];rfl,FR.u⟩
theorem pY (d:af) (W:QA) (nw cw:Nat) (B:QA) (nb cb:Nat) (many:Int) (w:World) :
  Calls prog 27 #[.agg (nD d W nw cw B nb cb),.int .i64 many] w fun e w'=>e=.returned (.bool (bm d many))∧Below w w w':=by
 obtain ⟨r,hr⟩:∃ r,bm d many=r:=⟨_,rfl⟩
 rw [hr]
 unfold bm at hr
 have FR:=zW w
 obtain ⟨w1,yw1,BN,FR⟩:=nF FR (nD d W nw cw B nb cb) 42
 obtain ⟨c0,c1,c2⟩:=uc3 BN 0 1 2
 by_cases h1:0≤d.a
 rotate_left
 ·have t1:decide (0≤d.a)=false:=dF h1
  have R:=zH (show r=false by rw [← hr];simp;omega)
  clear hr h1
  go_in
  go_wp2
  go_ret
  exact ⟨by rw [R.o];rfl,FR.u⟩
 have t1:decide (0≤d.a)=true:=qT h1
 by_cases h2:d.a < many
 rotate_left
 ·have t2:decide (d.a < many)=false:=dF h2
  have R:=zH (show r=false by rw [← hr];simp;omega)
  clear hr h1 h2
  go_in
  go_wp2
  go_ret
  exact ⟨by rw [R.o];rfl,FR.u⟩
 have t2:decide (d.a < many)=true:=qT h2
 by_cases h3:d.kind=6
 rotate_left
 ·have t3:(d.kind != 6)=true:=by simpa using h3
  have R:=zH (show r=true by rw [← hr];simp [h3];omega)
  clear hr h1 h2 h3
  go_in
  go_wp2
  go_ret
  exact ⟨by rw [R.o];rfl,FR.u⟩
 have t3:(d.kind != 6)=false:=by simpa using h3
 by_cases h4:0≤d.b
 rotate_left
 ·have t4:decide (0≤d.b)=false:=dF h4
  have R:=zH (show r=false by rw [← hr];simp [h3];omega)
  clear hr h1 h2 h3 h4
  go_in
  go_wp2
  go_ret
  exact ⟨by rw [R.o];rfl,FR.u⟩
 have t4:decide (0≤d.b)=true:=qT h4
 by_cases h5:d.b < many
 ·have t5:decide (d.b < many)=true:=qT h5
  have R:=zH (show r=true by rw [← hr];simp [h3];omega)
  clear hr h1 h2 h3 h4 h5
  go_in
  go_wp2
  go_ret
  exact ⟨by rw [R.o];rfl,FR.u⟩
 ·have t5:decide (d.b < many)=false:=dF h5
  have R:=zH (show r=false by rw [← hr];simp [h3];omega)
  clear hr h1 h2 h3 h4 h5
  go_in
  go_wp2
  go_ret
  exact ⟨by rw [R.o];rfl,FR.u⟩
theorem kZ (h v c h2 v2 c2:Int) (d:af) (W:QA) (nw cw:Nat) (B:QA) (nb cb:Nat) (w:World) (i0:InK .i64 h) (i1:InK .i64 v) (i2:InK .i64 c) (hout:InK .i64 d.out) (hp:InK .i64 d.p) (hnw:nw=d.w.length) (hnb:nb=d.bias.length) (mw:nw≤1048576) (mb:nb≤1048576) (e:d.kind=4) :
  Calls prog 28 #[.agg (nD d W nw cw B nb cb),.agg (sN h v c),.agg (sN h2 v2 c2)] w fun e w'=>e=aL (aD h v c h2 v2 c2 d)∧Below w w w':=by
 obtain ⟨r,hr⟩:∃ r,aD h v c h2 v2 c2 d=r:=⟨_,rfl⟩
 rw [hr]
 unfold aD at hr
 have VV:=zH hr.symm
 clear hr
 have FR:=zW w
 obtain ⟨w1,w2,w3,w4,yw1,yw2,yw3,yw4,l1,l2,l3,l4,BN,BA,BB,BR,yk4⟩:=bk4 w (nD d W nw cw B nb cb) 42 (sN h v c) 24 (sN h2 v2 c2) 24 (sN 0 0 0) 24
 replace FR:=zF yk4 FR
 clear yk4
 have n0:=BN.o.cell 0
 ·skip
  have k1:(d.kind == 1)=false:=by simp [e]
  have k2:(d.kind == 2)=false:=by simp [e]
  have k3:(d.kind == 3)=false:=by simp [e]
  have k4:(d.kind == 4)=true:=by simp [e]
  have k5:(d.kind == 5)=false:=by simp [e]
  have k6:(d.kind == 6)=false:=by simp [e]
  have k8:(d.kind == 8)=false:=by simp [e]
  have k9:(d.kind == 9)=false:=by simp [e]
  have kl:decide (d.kind < 1)=false:=by simp [e]
  have kg:decide (9 < d.kind)=false:=by simp [e]
  have CN:=zH (fun w=>dU h v c d.k d.s d.p c w i0 i1 i2 i2)
  obtain ⟨n3,n4,n5⟩:=uc3 BN 3 4 5
  have a2:=BA.o.cell 2
  obtain ⟨⟨⟨x1,x2,x3⟩,xe⟩,hx⟩:∃ x,aw h v c d.k d.s d.p c=x:=⟨_,rfl⟩
  have R:=zH (show r=((x1,x2,x3),xe) by rw [VV.o,← hx];simp [e])
  rw [hx] at CN
  simp only [aL] at CN
  clear VV hx e i0 i1 i2 hout hp hnw hnb mw mb
  go_in
  go_wp2_with (first
   | (refine lG BA.o ?_))
  clear yw1 yw2 yw3 yw4 n0 n3 n4 n5 a2
  refine qM (CN.o _) fun w5 hb=>?_
  obtain ⟨FR,BN,BA,BB,BR⟩:=uz5 hb FR BN BA BB BR
  clear hb
  go_wp2_with (first
   | (refine sG (sN x1 x2 x3) BR.o ?_;intro w7 BR7 g7))
  refine rG BR7 ?_;exact ⟨by rw [R.o];rfl,(FR.o.away g7 oM).out⟩
theorem lc (h v c h2 v2 c2:Int) (d:af) (W:QA) (nw cw:Nat) (B:QA) (nb cb:Nat) (w:World) (i0:InK .i64 h) (i1:InK .i64 v) (i2:InK .i64 c) (hout:InK .i64 d.out) (hp:InK .i64 d.p) (hnw:nw=d.w.length) (hnb:nb=d.bias.length) (mw:nw≤1048576) (mb:nb≤1048576) (e:d.kind=5) :
  Calls prog 28 #[.agg (nD d W nw cw B nb cb),.agg (sN h v c),.agg (sN h2 v2 c2)] w fun e w'=>e=aL (aD h v c h2 v2 c2 d)∧Below w w w':=by
 obtain ⟨r,hr⟩:∃ r,aD h v c h2 v2 c2 d=r:=⟨_,rfl⟩
 rw [hr]
 unfold aD at hr
 have VV:=zH hr.symm
 clear hr
 have FR:=zW w
 obtain ⟨w1,w2,w3,w4,yw1,yw2,yw3,yw4,l1,l2,l3,l4,BN,BA,BB,BR,yk4⟩:=bk4 w (nD d W nw cw B nb cb) 42 (sN h v c) 24 (sN h2 v2 c2) 24 (sN 0 0 0) 24
 replace FR:=zF yk4 FR
 clear yk4
 have n0:=BN.o.cell 0
 ·skip
  have k1:(d.kind == 1)=false:=by simp [e]
  have k2:(d.kind == 2)=false:=by simp [e]
  have k3:(d.kind == 3)=false:=by simp [e]
  have k4:(d.kind == 4)=false:=by simp [e]
  have k5:(d.kind == 5)=true:=by simp [e]
  have k6:(d.kind == 6)=false:=by simp [e]
  have k8:(d.kind == 8)=false:=by simp [e]
  have k9:(d.kind == 9)=false:=by simp [e]
  have kl:decide (d.kind < 1)=false:=by simp [e]
  have kg:decide (9 < d.kind)=false:=by simp [e]
  have CN:=zH (fun w=>dU h v c d.k d.s d.p c w i0 i1 i2 i2)
  obtain ⟨n3,n4,n5⟩:=uc3 BN 3 4 5
  have a2:=BA.o.cell 2
  obtain ⟨⟨⟨x1,x2,x3⟩,xe⟩,hx⟩:∃ x,aw h v c d.k d.s d.p c=x:=⟨_,rfl⟩
  have R:=zH (show r=((x1,x2,x3),xe) by rw [VV.o,← hx];simp [e])
  rw [hx] at CN
  simp only [aL] at CN
  clear VV hx e i0 i1 i2 hout hp hnw hnb mw mb
  go_in
  go_wp2_with (first
   | (refine lG BA.o ?_))
  clear yw1 yw2 yw3 yw4 n0 n3 n4 n5 a2
  refine qM (CN.o _) fun w5 hb=>?_
  obtain ⟨FR,BN,BA,BB,BR⟩:=uz5 hb FR BN BA BB BR
  clear hb
  go_wp2_with (first
   | (refine sG (sN x1 x2 x3) BR.o ?_;intro w7 BR7 g7))
  refine rG BR7 ?_;exact ⟨by rw [R.o];rfl,(FR.o.away g7 oM).out⟩
theorem li (h v c h2 v2 c2:Int) (d:af) (W:QA) (nw cw:Nat) (B:QA) (nb cb:Nat) (w:World) (i0:InK .i64 h) (i1:InK .i64 v) (i2:InK .i64 c) (hout:InK .i64 d.out) (hp:InK .i64 d.p) (hnw:nw=d.w.length) (hnb:nb=d.bias.length) (mw:nw≤1048576) (mb:nb≤1048576) (e:d.kind=9) :
  Calls prog 28 #[.agg (nD d W nw cw B nb cb),.agg (sN h v c),.agg (sN h2 v2 c2)] w fun e w'=>e=aL (aD h v c h2 v2 c2 d)∧Below w w w':=by
 obtain ⟨r,hr⟩:∃ r,aD h v c h2 v2 c2 d=r:=⟨_,rfl⟩
 rw [hr]
 unfold aD at hr
 have VV:=zH hr.symm
 clear hr
 have FR:=zW w
 obtain ⟨w1,w2,w3,w4,yw1,yw2,yw3,yw4,l1,l2,l3,l4,BN,BA,BB,BR,yk4⟩:=bk4 w (nD d W nw cw B nb cb) 42 (sN h v c) 24 (sN h2 v2 c2) 24 (sN 0 0 0) 24
 replace FR:=zF yk4 FR
 clear yk4
 have n0:=BN.o.cell 0
 ·skip
  have k1:(d.kind == 1)=false:=by simp [e]
  have k2:(d.kind == 2)=false:=by simp [e]
  have k3:(d.kind == 3)=false:=by simp [e]
  have k4:(d.kind == 4)=false:=by simp [e]
  have k5:(d.kind == 5)=false:=by simp [e]
  have k6:(d.kind == 6)=false:=by simp [e]
  have k8:(d.kind == 8)=false:=by simp [e]
  have k9:(d.kind == 9)=true:=by simp [e]
  have kl:decide (d.kind < 1)=false:=by simp [e]
  have kg:decide (9 < d.kind)=false:=by simp [e]
  have RE:=zH (fun w=>aQ h c v w i0 i1 i2)
  have EB:=zH (dL (h:=h) (v:=v) (c:=c))
  have m0:=(aC h v c).1
  have V1:=zH (show r=bJ d.kind h v c h2 v2 c2 d.p by rw [VV.o];simp [e])
  have V1':=V1.o
  unfold bJ at V1'
  obtain ⟨m,hm⟩:∃ m,ab h v c=m:=⟨_,rfl⟩
  obtain ⟨eq,he⟩:∃ x,([h,v,c] == [h2,v2,c2])=x:=⟨_,rfl⟩
  have QE:=zH (fun w=>eo w h v c h2 v2 c2)
  rw [hm,he] at V1'
  rw [hm] at RE EB m0
  rw [he] at QE
  replace V1:=zH V1'
  clear V1' hm he VV i0 i1 i2 hout hp hnw hnb mw mb
  by_cases c1:m=0
  ·have t1:(m == 0)=true:=by simp [c1]
   have R:=zH (show r=noS 5 by rw [V1.o,if_pos c1])
   clear c1 V1 m0 EB e
   go_in
   go_wp2_with (first
    | (refine lG BA.o ?_))
   clear yw1 yw2 yw3 yw4 n0
   refine qM (RE.o _) fun w5 hb=>?_
   obtain ⟨FR,BN,BA,BB,BR⟩:=uz5 hb FR BN BA BB BR
   clear hb
   have n0:=BN.o.cell 0
   go_upto_region 12 with (fail)
   go_wp2_with (first
    | (refine sG (sN 0 0 0) BR.o ?_;intro w7 BR7 g7))
   refine rG BR7 ?_;exact ⟨by rw [R.o];rfl,(FR.o.away g7 oM).out⟩
  have t1:(m == 0)=false:=by simpa using c1
  have V2:=zH (show r=(if d.kind=6∧eq=false then noS 5 else if d.kind=8 then cI h v c d.p else if d.kind=9 then ((1,1,m),0) else ((h,v,c),0)) by rw [V1.o,if_neg c1])
  have eb:=EB.o c1
  clear V1 c1 m0 EB
  have R:=zH (show r=((1,1,m),0) by rw [V2.o];simp [e])
  clear V2 e QE eb
  go_in
  go_wp2_with (first
   | (refine lG BA.o ?_))
  clear yw1 yw2 yw3 yw4 n0
  refine qM (RE.o _) fun w5 hb=>?_
  obtain ⟨FR,BN,BA,BB,BR⟩:=uz5 hb FR BN BA BB BR
  clear hb
  have n0:=BN.o.cell 0
  go_upto_region 14 with (fail)
  go_wp2_with (first
   | (refine lG BA.o ?_))
  clear n0
  refine qM (RE.o _) fun w6 hb=>?_
  obtain ⟨FR,BN,BA,BB,BR⟩:=uz5 hb FR BN BA BB BR
  clear hb
  go_wp2_with (first
   | (refine sG (sN 1 1 m) BR.o ?_;intro w7 BR7 g7))
  refine rG BR7 ?_;exact ⟨by rw [R.o];rfl,(FR.o.away g7 oM).out⟩
theorem s6 {w:World} {S:Nat → Prop} {cs:List Value} {t:ae} (h:dE.rep w S cs t) :
  ∃ A n cap,cs=[.int .i64 t.h,.int .i64 t.v,.int .i64 t.c,.slice A n cap]∧ak t∧Sl (aa .i8) w S A n cap t.data:=by
 obtain ⟨⟨⟨a,b,c⟩,l⟩,rfl,_,_,rfl,⟨_,_,rfl,⟨rfl,h1⟩,_,_,rfl,⟨rfl,h2⟩,rfl,h3⟩,hs⟩:=h
 obtain ⟨A,cap,rfl,hs'⟩:=eS.1 hs
 exact ⟨A,_,cap,rfl,⟨h1,h2,h3⟩,hs'⟩
theorem fV:dE.size=4:=rfl
theorem Sl.tensor_at {w:World} {S:Nat → Prop} {A:QA} {n cap:Nat} {l:List ae} (h:Sl dE w S A n cap l) (i:Nat) (hi:i < n) :
  ∃ t b off D m c,l[i]?=some t∧A=some ⟨b,off,none⟩∧S b∧b < w.heap.size∧ak t∧Sl (aa .i8) w S D m c t.data∧w.rangeAt b (off+i*4) [.int .i64 t.h,.int .i64 t.v,.int .i64 t.c,.slice D m c]:=by
 obtain ⟨t,b,off,xs,hx,hA,hS,hb,hr,hl,hc⟩:=h.cells i hi dM
 obtain ⟨D,m,c,rfl,ht,h1⟩:=s6 hr
 rw [fV] at hc
 exact ⟨t,b,off,D,m,c,hx,hA,hS,hb,ht,h1,fun j v hv=>by have:=hc j v hv;rwa [← Nat.add_assoc] at this⟩
theorem jP:EI prog 33 27 (.agg (tN 0 0 0 none 0 0)) 4 48:=⟨underlying33,by kernel_rfl,rfl,by decide⟩
theorem ud {w:World} {S:Nat → Prop} {t:ae} {A:QA} {n c:Nat} (h:ak t) (hs:Sl (aa .i8) w S A n c t.data):dE.rep w S [.int .i64 t.h,.int .i64 t.v,.int .i64 t.c,.slice A n c] t :=
 ⟨((t.h,t.v,t.c),t.data),rfl,_,_,rfl,⟨_,_,rfl,⟨rfl,h.h⟩,_,_,rfl,⟨rfl,h.v⟩,rfl,h.c⟩,hs.rep⟩
theorem Own.wide {α:Type} {t:Ty α} {w:World} {S S':Nat → Prop} {base:Nat} {E:TypeId} {v:Value} {n:Nat} {l:List α} (h:Own t w S base E v n l) (hk:∀ b,S b → S' b):Own t w S' base E v n l :=
 let ⟨vs,h1,h2⟩:=h.out;⟨vs,h1,h2.more hk⟩
end Go.Proofs.YtmihnoagagbgaaaGreat
namespace Go.Proofs.YtmihnoagagbgaaaGreat
open Go.RowKit Go.ChangeShapes Go.WideShapes Go.Shelf Go.Lib Go.Sort Go.Proofs.YtmihnoagagbgaaaGreat.Ar Tryz
set_option maxRecDepth 100000
set_option maxHeartbeats 16000000
theorem rZ:EI prog 89 92 (.agg #[.int .i64 0,.int .i64 0]) 2 16:=⟨underlying89,by kernel_rfl,rfl,by decide⟩
theorem oF (F:Value) (w:World):Calls prog 74 #[.slice none 0 0,F] w fun e w'=>e=.returned (.tuple #[])∧w=w':=by
 have ins:∀ w,Calls prog 137 #[.slice none 0 0,.int .i64 0,.int .i64 0,F] w fun e w'=>e=.returned (.tuple #[])∧w=w':=by
  intro w
  go_in
  go_wp2_with fail
  refine wp_loop_rounds 1 ?_
  rw [rounds_succ]
  go_wp2_with fail
  refine bodyPost_end (results_none rfl _ _ _) rfl ?_
  exact ⟨rfl,rfl⟩
 have pd:∀ (x:Int) w,Calls prog 111 #[.slice none 0 0,.int .i64 0,.int .i64 0,.int .i64 x,F] w fun e w'=>e=.returned (.tuple #[])∧w=w':=by
  intro x w
  go_in
  go_wp2_with fail
  refine wp_loop_rounds 1 ?_
  rw [rounds_succ]
  go_wp2_with fail
  refine (ins w).mono ?_
  rintro e w1 ⟨rfl,rfl⟩
  go_wp2_with fail
  refine bodyPost_ret (results_none rfl _ _ _) rfl ?_
  exact ⟨rfl,rfl⟩
 have bl:∀ w,Calls prog 112 #[.int .u64 0] w fun e w'=>(∃ x:Int,e=.returned (.int .i64 x))∧w=w':=by
  intro w
  have h:=Any.bits_Len (SlLaysF0.n15.bits (P:=prog) (ρ:=Tryz.lSrt_ren) { Tryz.lSrt with }) 0 w oM oM
  exact h.mono fun e w' ⟨h1,h2⟩=>⟨⟨_,h1⟩,h2.symm⟩
 clear ins
 go_in
 go_wp2_with fail
 refine (bl w).mono ?_
 rintro e w1 ⟨⟨x,rfl⟩,rfl⟩
 go_wp2_with fail
 refine (pd x w).mono ?_
 rintro e w1 ⟨rfl,rfl⟩
 go_wp2_with fail
 refine bodyPost_end (results_none rfl _ _ _) rfl ?_
 exact ⟨rfl,rfl⟩
theorem qU (n:Int):LeastFree [] n 0:=⟨Int.le_refl _,(fun x hx=>by cases hx),(fun p h1 h2=>by omega),.inl rfl⟩
theorem nr (n:Int) (w:World):Calls prog 41 #[.slice none 0 0,.int .i64 n] w fun e w'=>e=.returned (.int .i64 0)∧w=w':=by
 go_in
 go_wp2_with fail
 go_step3
 go_wp2_with fail
 refine (oF _ w).mono ?_
 rintro e w1 ⟨rfl,rfl⟩
 go_wp2_with fail
 go_step3
 go_wp2_with fail
 refine wp_loop_rounds 1 ?_
 rw [rounds_succ]
 go_wp2_with fail
 rw [Exit.noGoto_ret]
 go_ret
 exact ⟨rfl,rfl⟩
theorem ns (v:Value) (q base:Nat) (l:List (Int × Int)) (n:Int) (w:World) (own:Own ft w (fun _=>False) base 92 v q l) (hn:0 < n∧n≤1048576)
  (hb:∀ x ∈ l,0≤x.1∧x.1≤1099511627776∧0≤x.2∧x.2≤1099511627776) (hm:q≤1099511627776) (hbase:base≤w.heap.size) :
  Calls prog 41 #[v,.int .i64 n] w fun e w'=>∃ r,e=.returned (.int .i64 r)∧LeastFree l n r∧Below base w w':=by
 obtain ⟨vs,h1,h2⟩:=own.out
 rcases h1.2 with ⟨rfl,rfl⟩|⟨g,cap,cur,rfl,hg,_⟩
 ·have hl:=own.length dM
  have:l=[]:=List.eq_nil_of_length_eq_zero hl
  subst this
  refine (nr n w).mono ?_
  rintro e w' ⟨rfl,rfl⟩
  exact ⟨0,rfl,qU n,qB _ _⟩
 ·refine (r8 g cap q base l n w own hn hb hm).mono ?_
  rintro e w' ⟨r,rfl,hr,gr⟩
  exact ⟨r,rfl,hr,(qB base w).grown gr hbase (fun k hk=>by cases hk;exact hg)⟩
def fX (sz un:List Int) (n:Nat) (w:World) (e:Ending) (w':World):Prop :=
 if mayOk sz un then ∃ A c,e=.returned (.tuple #[.slice A n c,.int .i64 (roomTo sz un n),.bool true])∧Sl (aa .i64) w' (bin w w') A n c (atTo sz un n)∧Below w w w'
 else e=.returned (.tuple #[.slice none 0 0,.int .i64 0,.bool false])∧Below w w w'
theorem qC {sz un at_:List Int} {i n:Nat} (hg:Ar.Good sz un i at_) (hi:i < n) (hlen:sz.length=n) (hs:∀ j,j < n → 0≤sz.getD j 0∧sz.getD j 0≤1048576) (r:Int) (hr:(sz.getD i 0=0∧r=0) ∨ (0 < sz.getD i 0∧LeastFree (takenTo sz un at_ i i) (sz.getD i 0) r)) :
  best sz un at_ i=r∧0≤r∧cand sz at_ i r:=by
 rcases hr with ⟨h1,rfl⟩|⟨h1,h2⟩
 ·exact ⟨best_zero h1 (fun j hj=>(hs j oM).1) (fun j hj=>(hg.bd j hj).1),Int.le_refl _,.inl rfl⟩
 ·refine ⟨least_best oM h1 (fun j hj=>(hs j oM).1) (fun j hj=>(hg.bd j hj).1) h2,h2.nn,?_⟩
  rcases h2.from_ with h|⟨x,hx,h⟩
  ·exact .inl h
  ·obtain ⟨j,q1,q2,q3,rfl⟩:=takenTo_mem.1 hx
   exact .inr ⟨j,q1,h⟩
theorem m9 (A:QA) (n cap:Nat) (A':QA) (n' cap':Nat) (sz un:List Int) (w:World) (h:Sl (aa .i64) w (blo w) A n cap sz) (h':Sl (aa .i64) w (blo w) A' n' cap' un) :
  Calls prog 21 #[.slice A n cap,.slice A' n' cap'] w (fX sz un n w):=by
 have hm:n≤9223372036854775807:=lT h.cap_le h.max_le
 have MA:=zH (qy A n cap A' n' cap' sz un w h h')
 have hl:=h.n_eq
 have hl':=h'.n_eq
 have H:=zH h
 have H':=zH h'
 clear h h'
 by_cases c:mayOk sz un
 rotate_left
 ·rw [dF c] at MA
  have C:=zH c
  clear c hl hl'
  go_in
  go_wp2_with fail
  refine MA.o.mono ?_
  rintro e w1 ⟨rfl,rfl⟩
  go_wp2
  go_ret3
  unfold fX
  rw [if_neg C.o]
  exact ⟨rfl,qB _ _⟩
 have C:=zH c
 rw [qT c] at MA
 obtain ⟨k1,k2,k3⟩:=c
 rw [hl] at k2 k3
 have hnn:n=n':=by rw [← hl,← hl'];exact k1
 subst hnn
 have HS:=zH k3
 have HL:=zH hl
 clear hl hl' k1 k3
 have FR:=zW w
 go_in
 go_wp2_with fail
 refine MA.o.mono ?_
 rintro e w1 ⟨rfl,rfl⟩
 clear MA
 go_wp2
 go_loopw [7,8,20] (fun v rm u wr=>∃ i:Nat,i≤n∧u=.int .i64 i∧rm=.int .i64 (roomTo sz un i)∧Hid (Far w wr)∧Hid (Own (aa .i64) wr (fun _=>False) w.heap.size 3 v i (atTo sz un i))∧Hid (Ar.Good sz un i (atTo sz un i))∧Hid (0≤roomTo sz un i∧roomTo sz un i≤1073741824)) (fun _ _ u _=>n - (intOf u).toNat)
 case atStart=>exact ⟨0,zl _,rfl,rfl,FR,zH (Own.nil _ _ _ _ _),zH (Ar.Good.nil sz un),zH (by simp [roomTo])⟩
 case round =>
  clear FR
  obtain ⟨i,hi,rfl,rfl,F,O,G,RB⟩:=hrel
  have rb:=RB.o
  have HRM:=zH (show roomTo sz un (i+1)=max (roomTo sz un i) (best sz un (atTo sz un i) i+sz.getD i 0) from rfl)
  have HAT:=zH (show atTo sz un (i+1)=atTo sz un i ++ [best sz un (atTo sz un i) i] from rfl)
  generalize hrm:roomTo sz un i=rm at *
  have HRM0:=zH hrm
  clear hrm RB
  by_cases hlt:i < n
  ·have t1:decide ((i:Int) < (n:Int))=true:=by simp;omega
   have pi:(i:Int) < (n:Int):=oM
   obtain ⟨b0,off,rfl,_,_,c0,_⟩:=(H.o.fut F.o.out).int_at i hlt
   have sbi:=HS.o i hlt
   obtain ⟨x,hx⟩:∃ x,sz.getD i 0=x:=⟨_,rfl⟩
   rw [hx] at c0 sbi HRM
   have HX:=zH hx
   clear hx
   generalize hal:atTo sz un i=al at *
   have HAL:=zH hal
   clear hal
   obtain ⟨A7,c7,rfl,sl7⟩:=O.o.sl (S':=blo wr) dM (fun b h1 h2=>h2) (fun _ h=>h.elim)
   have SA:=zH sl7
   have SZ:=zH (H.o.fut F.o.out)
   have SU:=zH (H'.o.fut F.o.out)
   have GS:=zH (fun k hk=>G.o.small (Nat.le_of_lt hlt) k2 HS.o k hk)
   clear sl7
   obtain ⟨wo,hwo⟩:∃ wo,wo=wr:=⟨_,rfl⟩
   rw [← hwo] at F O SA SZ SU c0 ⊢
   clear hwo
   have FO:=zW wo
   go_wp2_with fail
   clear c0
   go_loopw [11,26] (fun v u wr=>∃ k q:Nat,k≤i∧q≤k∧u=.int .i64 k∧Hid (Far wo wr)∧Hid (Own ft wr (fun _=>False) wo.heap.size 92 v q (takenTo sz un al i k))) (fun _ u _=>i - (intOf u).toNat)
   case atStart=>exact ⟨0,0,zl _,lR _,rfl,FO,zH (Own.nil _ _ _ _ _)⟩
   case round =>
    clear FO
    obtain ⟨k,q,hk,hqk,rfl,FO,OT⟩:=hrel
    have HT:=zH (show takenTo sz un al i (k+1)=takenTo sz un al i k ++ if togI (un.getD k 0) k i=true∧0 < sz.getD k 0 then [(al.getD k 0,al.getD k 0+sz.getD k 0)] else [] from rfl)
    by_cases hlk:k < i
    ·have t2:decide ((k:Int) < (i:Int))=true:=by simp;omega
     have pk:(k:Int) < (n:Int):=oM
     have pki:(k:Int) < (i:Int):=oM
     have T:=zH (mV A' n cap' un k i wr (SU.o.fut FO.o.out) oM)
     obtain ⟨b1,off1,hA,_,hb1,c1,_⟩:=SZ.o.int_at k oM
     cases hA
     obtain ⟨b2,off2,rfl,_,hb2,c2,_⟩:=SA.o.int_at k hlk
     have c1:=ao FO.o.out c1
     have c2:=ao FO.o.out c2
     have sbk:=HS.o k oM
     have gsk:=GS.o k hlk
     obtain ⟨y,hy⟩:∃ y,sz.getD k 0=y:=⟨_,rfl⟩
     obtain ⟨p,hp⟩:∃ y,al.getD k 0=y:=⟨_,rfl⟩
     rw [hy] at c1 sbk
     rw [hp] at c2
     rw [hy,hp] at HT gsk
     clear hy hp
     cases ht:togI (un.getD k 0) k i with
     | false =>
      rw [ht] at T HT
      rw [if_neg sM,List.append_nil] at HT
      clear ht
      go_wp2_with fail
      refine T.o.mono ?_
      rintro e w1 ⟨rfl,rfl⟩
      go_wp2
      exact ⟨⟨k+1,q,by omega,by omega,by go_num,FO,by rw [HT.o];exact OT⟩,by simp [intOf];omega⟩
     | true =>
      rw [ht] at T HT
      by_cases hy0:0 < y
      rotate_left
      ·have y1:decide (0 < y)=false:=by simp;omega
       rw [if_neg oM,List.append_nil] at HT
       clear ht hy0
       go_wp2_with fail
       refine T.o.mono ?_
       rintro e w1 ⟨rfl,rfl⟩
       go_wp2
       exact ⟨⟨k+1,q,by omega,by omega,by go_num,FO,by rw [HT.o];exact OT⟩,by simp [intOf];omega⟩
      ·have y1:decide (0 < y)=true:=by simp;exact hy0
       rw [if_pos ⟨rfl,hy0⟩] at HT
       have e1:IntKind.i64.wrap (p+y)=p+y:=wJ
       have OD:=zH (show Own ft wr.drew (fun _=>False) wo.heap.size 92 u11 q (takenTo sz un al i k) from OT.o.heap rfl)
       have FD:=zH FO.o.out.drew
       have zz:=FO.o.size
       have ne1:=zH (show some b0 ≠ u11.ownBlock from fun e=>by have:=(OT.o.lt _ e.symm).1;omega)
       have ne2:=zH (show some b2 ≠ u11.ownBlock from fun e=>by have:=(OT.o.lt _ e.symm).1;omega)
       have rp:ft.rep wr.drew (fun _=>False) [.int .i64 p,.int .i64 (p+y)] (p,p+y):=⟨_,_,rfl,⟨rfl,by rw [ah];omega⟩,⟨rfl,by rw [ah];omega⟩⟩
       have RP:=zH rp
       have hq1:q≤1024:=oM
       clear ht hy0 rp
       go_wp2_with fail
       refine T.o.mono ?_
       rintro e w1 ⟨rfl,rfl⟩
       go_wp2_with fail
       refine aJ (fun w'=>w'.cell? ⟨b2,off2+k,none⟩=some (.int .i64 p)∧w'.cell? ⟨b0,off+k,none⟩=some (.int .i64 y)∧Below wo wo w') 17 kM ?_ (fun hS=>?_)
       ·exact ⟨c2,c1,FD.o⟩
       refine kT' 0 hS ?_
       refine kT' 1 hS ?_
       refine kT' 2 hS ?_
       refine kT' 3 hS ?_
       refine kT' 4 hS ?_
       refine kT' 5 hS ?_
       refine kT' 6 hS ?_
       refine kT' 7 hS ?_
       refine kT' 8 hS ?_
       refine kT' 9 hS ?_
       refine kT' 10 hS ?_
       refine kT' 11 hS ?_
       refine kT' 12 hS ?_
       refine kT' 13 hS ?_
       refine kT' 14 hS ?_
       refine rT 15 (fun K hK=>?_)
       go_simp
       have hb:Below wr.drew.heap.size wr.drew (wr.drew.alloc (.cells #[.int .i64 p,.int .i64 (p+y)] 92)):=(qB _ _).alloc (lR _) _
       refine xK hK (zR hb hS) fun hS=>?_
       clear hK K
       refine rT 16 (fun K hK=>?_)
       (rw [if_pos (by rfl)];refine cU (W:=wr.drew) (cs:=#[.int .i64 p,.int .i64 (p+y)]) (E:=92) (t:=ft) (.tmp 40) (.tmp 55) rfl rZ rfl OD.o 1 rfl (p,p+y) RP.o (by unfold maxLen;omega) oM (by show _≤wr.heap.size;omega) (fun _ h=>h.elim) ?_;intro v' w7 own7 g7 at7;refine hK.out _ _ ⟨(bF g7 c2 ne2.out),(bF g7 c1 ne1.out),FD.o.grown g7 (by show _≤wr.heap.size;omega) (fun j hj=>(OD.o.lt j hj).1)⟩ (fun hS=>?_))
       clear hK K
       try simp only [pX]
       refine wpAnyT_tail _ _ rfl rfl kM ?_
       have F7:=zH (Far.mk (FD.o.grown g7 (by show _≤wr.heap.size;omega) (fun j hj=>(OD.o.lt j hj).1)))
       have O7:=zH own7
       clear hS hb c1 c2 own7 g7 at7
       go_wp2
       exact ⟨⟨k+1,q+1,by omega,by omega,by go_num,F7,by rw [HT.o];exact O7⟩,by simp [intOf];omega⟩
    ·obtain rfl:k=i:=oM
     have t2:decide ((k:Int) < (k:Int))=false:=by simp
     have BG:=zH (fun r hr=>qC G.o hlt HL.o HS.o r hr)
     rw [HX.o] at BG
     have fin:∀ (r:Int) (w8:World),((x=0∧r=0) ∨ (0 < x∧LeastFree (takenTo sz un al k k) x r)) → Far wo w8 → Far w w8∧Own (aa .i64) w8 (fun _=>False) w.heap.size 3 (.slice A7 k c7) k al∧best sz un al k=r∧0≤r∧cand sz al k r∧r+x≤1073741824:=by
      intro r w8 hr hf
      obtain ⟨q1,q2,q3⟩:=BG.o r hr
      refine ⟨F.o.trans hf,O.o.below hf.out (lR _) (fun _ h=>h.elim),q1,q2,q3,?_⟩
      have:=(G.o.push hlt HS.o q2 q3).small (n:=n) oM k2 HS.o k oM
      rw [getD_append,G.o.len,if_neg oM,if_pos rfl,HX.o] at this
      exact this.2
     have FIN:=zH fin
     clear fin
     have fz:=F.o.size
     by_cases hx0:0 < x
     rotate_left
     ·have y1:decide (0 < x)=false:=by simp;omega
      have x0:x=0:=oM
      obtain ⟨f1,f2,f3,f4,f5,f6⟩:=FIN.o 0 wr (.inl ⟨x0,rfl⟩) FO.o
      have ON:=zH f2
      have FN:=zH f1
      have FG:=zH (G.o.push hlt HS.o f4 f5)
      rw [f3] at HRM HAT
      have z0:=f1.size
      have X0:=zH x0
      have e1:IntKind.i64.wrap ((0:Int)+x)=0+x:=wJ
      clear f1 f2 f3 f5 hx0 x0
      go_wp2_with (at_builtin;refine wpList_push (t:=aa .i64) rfl (.tmp 63) (.tmp 65) rfl jn rfl ON.o 1 rfl (0:Int) ⟨rfl,by rw [ah];omega⟩ (by unfold maxLen;omega) oM z0 (fun _ h=>h.elim) ?_;intro v' w3 own3 g3 at3)
      have O3:=zH own3
      have F3:=zH (Far.mk (FN.o.out.grown g3 FN.o.out.size (fun j hj=>(ON.o.lt j hj).1)))
      clear own3 g3 at3
      go_wp2_with fail
      all_goals exact ⟨⟨k+1,by omega,by go_num,by rw [HRM.o];first|rfl|(congr 1;omega),F3,by rw [HAT.o];exact O3,by rw [HAT.o];exact FG,by rw [HRM.o];exact zH oM⟩,by simp [intOf];omega⟩
     ·have y1:decide (0 < x)=true:=by simp;exact hx0
      have hxs:x≤1048576:=sbi.2
      have z9:=FO.o.size
      have TB:=zH (show ∀ y ∈ takenTo sz un al k k,0≤y.1∧y.1≤1099511627776∧0≤y.2∧y.2≤1099511627776 from fun y hy=>by
       obtain ⟨j,q1,q2,q3,rfl⟩:=takenTo_mem.1 hy
       have g1:=GS.o j q1
       have g2:=HS.o j oM
       simp only
       omega)
      have CF:=zH (ns u11 q wo.heap.size _ x wr OT.o ⟨hx0,hxs⟩ TB.o oM z9)
      have X0:=zH hx0
      clear hx0 hxs z9 TB
      go_wp2_with fail
      refine CF.o.mono ?_
      rintro e w8 ⟨r,rfl,hr,hb8⟩
      obtain ⟨f1,f2,f3,f4,f5,f6⟩:=FIN.o r w8 (.inr ⟨X0.o,hr⟩) ⟨FO.o.out.trans hb8⟩
      have ON:=zH f2
      have FN:=zH f1
      have FG:=zH (G.o.push hlt HS.o f4 f5)
      rw [f3] at HRM HAT
      have z0:=f1.size
      have e1:IntKind.i64.wrap (r+x)=r+x:=wJ
      have R4:=zH f4
      clear f1 f2 f3 f5 hr hb8
      go_wp2_with (at_builtin;refine wpList_push (t:=aa .i64) rfl (.tmp 63) (.tmp 65) rfl jn rfl ON.o 1 rfl r ⟨rfl,by rw [ah];omega⟩ (by unfold maxLen;omega) oM z0 (fun _ h=>h.elim) ?_;intro v' w3 own3 g3 at3)
      have O3:=zH own3
      have F3:=zH (Far.mk (FN.o.out.grown g3 FN.o.out.size (fun j hj=>(ON.o.lt j hj).1)))
      clear own3 g3 at3
      go_wp2_with fail
      all_goals exact ⟨⟨k+1,by omega,by go_num,by rw [HRM.o],F3,by rw [HAT.o];exact O3,by rw [HAT.o];exact FG,by rw [HRM.o];exact zH oM⟩,by simp [intOf];omega⟩
  ·obtain rfl:i=n:=oM
   have t1:decide ((i:Int) < (i:Int))=false:=by simp
   obtain ⟨A7,c7,rfl,sl7⟩:=O.o.sl (S':=bin w wr) dM (fun b h1 h2=>⟨h1,h2⟩) (fun _ h=>h.elim)
   have SA:=zH sl7
   clear sl7
   go_wp2
   go_ret3
   unfold fX
   rw [if_pos C.o]
   exact ⟨A7,c7,by rw [HRM0.o];rfl,SA.o,F.o.out⟩
end Go.Proofs.YtmihnoagagbgaaaGreat
