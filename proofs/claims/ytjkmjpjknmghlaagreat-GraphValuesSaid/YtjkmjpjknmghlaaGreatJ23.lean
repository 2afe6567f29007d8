/-
  A product is shifted and rounded (layer 2): fix.Round, the document's Round.
  A product is shifted and rounded (layer 2): the document's Round.
-/
import Derived.Test.YtjkmjpjknmghlaaGreatJ09
set_option linter.unusedVariables false
set_option linter.unusedSimpArgs false
namespace Go.Proofs.YtjkmjpjknmghlaaGreat
open Go.RowKit Go.ChangeShapes Go.WideShapes
set_option maxRecDepth 100000
set_option maxHeartbeats 2000000
def sizeR (m:Nat) (s:Nat):Nat:=m / 2 ^ s+if s=0 then 0 else m / 2 ^ (s - 1) % 2
def roundV (v s:Int):Int:=if s < 0 ∨ 62 < s then 0 else if v < 0 then -(sizeR v.natAbs s.toNat:Int) else (sizeR v.natAbs s.toNat:Int)
theorem sizeR_le (m s:Nat):sizeR m s≤m:=by
 unfold sizeR
 split
 ·rename_i h;subst h;simp
 ·rename_i h
  obtain ⟨k,rfl⟩:∃ k,s=k+1:=⟨s - 1,by omega⟩
  rw [Nat.add_sub_cancel,Nat.pow_succ,← Nat.div_div_eq_div_mul]
  have:=Nat.div_le_self m (2 ^ k)
  omega
theorem and_half (m k:Nat) (hm:m < 18446744073709551616) (hk:k < 63):bits .and .u64 (m:Int) ((2 ^ k:Nat):Int) / ((2:Int) ^ k)=((m / 2 ^ k % 2:Nat):Int):=by
 have hp:2 ^ k < 18446744073709551616:=Nat.lt_of_lt_of_le (Nat.pow_lt_pow_right (by decide) hk) (by decide)
 rw [bits_and_u64_nat m (2 ^ k) hm hp]
 have:m &&& 2 ^ k=m / 2 ^ k % 2*2 ^ k:=by
  have e:=and_bit_var 64 m (k:Int) (by omega)
  rw [Int.toNat_natCast,Nat.min_eq_left (by omega),if_neg (by omega)] at e
  have e2:((2:Int) ^ k % 2 ^ 64).toNat=2 ^ k:=by
   have e3:((2:Int) ^ k)=((2 ^ k:Nat):Int):=by simp
   rw [e3]
   generalize 2 ^ k=p at *
   omega
  rw [e2] at e
  exact e
 rw [this,show ((2:Int) ^ k)=((2 ^ k:Nat):Int) by simp,← Int.natCast_ediv,Nat.mul_div_cancel _ (Nat.two_pow_pos k)]
theorem size_eq (m k:Nat) (hm:m≤9223372036854775808) (hk:k < 63):IntKind.u64.wrap ((m:Int) / 2 ^ (k+1)+bits BinOp.and IntKind.u64 (m:Int) (IntKind.u64.wrap (2 ^ k)) / 2 ^ k)=(sizeR m (k+1):Int):=by
 have hp:2 ^ k < 18446744073709551616:=Nat.lt_of_lt_of_le (Nat.pow_lt_pow_right (by decide) hk) (by decide)
 have e0:IntKind.u64.wrap (2 ^ k)=((2 ^ k:Nat):Int):=by
  rw [show ((2:Int) ^ k)=((2 ^ k:Nat):Int) by simp,IntKind.wrap_u64]
  generalize 2 ^ k=p at *
  omega
 rw [e0,and_half m k (by omega) hk,show ((2:Int) ^ (k+1))=((2 ^ (k+1):Nat):Int) by simp,← Int.natCast_ediv,← Int.natCast_add]
 have e1:m / 2 ^ (k+1)+m / 2 ^ k % 2=sizeR m (k+1):=by unfold sizeR;rw [if_neg (by omega),Nat.add_sub_cancel]
 have:=sizeR_le m (k+1)
 rw [e1,IntKind.wrap_u64]
 omega
theorem round_any (v s:Int) (w:World) (hv:InK .i64 v):Calls Tryz.prog 140 #[.int .i64 v,.int .i64 s] w fun e w'=>e=.returned (.int .i64 (roundV v s))∧Below w.heap.size w w':=by
 rw [inK_i64] at hv
 obtain ⟨hv1,hv2⟩:=hv
 unfold roundV
 by_cases a1:s < 0
 ·rw [if_pos (.inl a1)]
  go_enter Tryz.func140,Tryz.ntmps140
  go_wp2_with fail
  go_step3
  go_wp2_with fail
  rw [Exit.noGoto_ret]
  go_ret
  exact ⟨rfl,Below.refl _ _⟩
 ·by_cases a2:62 < s
  ·rw [if_pos (.inr a2)]
   go_enter Tryz.func140,Tryz.ntmps140
   go_wp2_with fail
   go_step3
   go_wp2_with fail
   rw [Exit.noGoto_ret]
   go_ret
   exact ⟨rfl,Below.refl _ _⟩
  ·rw [if_neg (by omega)]
   obtain ⟨n,rfl⟩:∃ n:Nat,s=n:=⟨s.toNat,by omega⟩
   rw [Int.toNat_natCast]
   have hs62:n≤62:=by omega
   clear a1 a2
   by_cases b1:v < 0
   ·rw [if_pos b1]
    obtain ⟨m,rfl⟩:∃ m:Nat,v=-(m:Int):=⟨v.natAbs,by omega⟩
    rw [show (-(m:Int)).natAbs=m by omega]
    have b2:¬ m=0:=by omega
    have hm:m≤9223372036854775808:=by omega
    obtain ⟨x,hx⟩:∃ x:Int,18446744073709551616 - (m:Int)=x:=⟨_,rfl⟩
    have u1:IntKind.u64.wrap (-(m:Int))=x:=by rw [IntKind.wrap_u64];omega
    have u2:IntKind.u64.wrap (-x)=(m:Int):=by rw [IntKind.wrap_u64];omega
    have u5:wrap64 x=-(m:Int):=by rw [← hx];unfold wrap64;omega
    obtain ⟨r,hr⟩:∃ r,sizeR m n=r:=⟨_,rfl⟩
    have hrm:r≤m:=by rw [← hr];exact sizeR_le m n
    obtain ⟨y,hy⟩:∃ y:Int,(-(r:Int)) % 18446744073709551616=y:=⟨_,rfl⟩
    have u3:IntKind.u64.wrap (-(r:Int))=y:=by rw [IntKind.wrap_u64,hy]
    have u4:IntKind.i64.wrap y=-(r:Int):=by rw [IntKind.wrap_i64,← hy];omega
    rw [hr]
    have b3:¬ (0:Int)≤-(m:Int):=by omega
    by_cases c1:n=0
    ·subst c1
     obtain rfl:m=r:=by rw [← hr];simp [sizeR]
     clear hx hy hr
     go_enter Tryz.func140,Tryz.ntmps140
     go_wp2_with fail
     go_step3
     go_wp2_with fail
     go_step3
     go_wp2_with fail
     rw [Exit.noGoto_ret]
     go_ret
     exact ⟨by show Ending.returned (.int .i64 (wrap64 x))=_;rw [u5],Below.refl _ _⟩
    ·obtain ⟨k,rfl⟩:∃ k,n=k+1:=⟨n - 1,by omega⟩
     have HR:=zH (size_eq m k hm (by omega))
     rw [hr] at HR
     clear hx hy hr
     go_enter Tryz.func140,Tryz.ntmps140
     go_wp2_with fail
     go_step3
     go_wp2_with fail
     go_step3
     go_wp2_with fail
     go_quiet (fail)
     rw [HR.out]
     go_wp2_with fail
     rw [Exit.noGoto_ret]
     go_ret
     exact ⟨rfl,below_drewN (Below.refl _ _) _⟩
   ·rw [if_neg b1]
    obtain ⟨m,rfl⟩:∃ m:Nat,v=(m:Int):=⟨v.natAbs,by omega⟩
    rw [show ((m:Int)).natAbs=m by omega]
    obtain ⟨r,hr⟩:∃ r,sizeR m n=r:=⟨_,rfl⟩
    have hrm:r≤m:=by rw [← hr];exact sizeR_le m n
    rw [hr]
    by_cases c1:n=0
    ·subst c1
     obtain rfl:m=r:=by rw [← hr];simp [sizeR]
     clear hr
     go_enter Tryz.func140,Tryz.ntmps140
     go_wp2_with fail
     refine wp_scope_fore 0 rfl ?_
     go_wp2_with fail
     go_step3
     refine ⟨rfl,?_⟩
     go_wp2_with fail
     rw [Exit.noGoto_ret]
     go_ret
     exact ⟨rfl,Below.refl _ _⟩
    ·obtain ⟨k,rfl⟩:∃ k,n=k+1:=⟨n - 1,by omega⟩
     have HR:=zH (size_eq m k (by omega) (by omega))
     rw [hr] at HR
     clear hr
     go_enter Tryz.func140,Tryz.ntmps140
     go_wp2_with fail
     refine wp_scope_fore 0 rfl ?_
     go_wp2_with fail
     go_step3
     refine ⟨rfl,?_⟩
     go_wp2_with fail
     go_quiet (fail)
     rw [HR.out]
     go_wp2_with fail
     rw [Exit.noGoto_ret]
     go_ret
     exact ⟨rfl,below_drewN (Below.refl _ _) _⟩
theorem half_bit (m k:Nat):m / 2 ^ k % 2=if 2 ^ (k+1)≤2*(m % 2 ^ (k+1)) then 1 else 0:=by
 have hp:0 < 2 ^ k:=Nat.two_pow_pos k
 rw [Nat.pow_succ]
 generalize 2 ^ k=p at *
 have h1:=Nat.div_add_mod m (p*2)
 have h2:m % (p*2) < p*2:=Nat.mod_lt _ (by omega)
 have h3:m / p=2*(m / (p*2))+m % (p*2) / p:=by
  have e:m=p*(2*(m / (p*2)))+m % (p*2):=by rw [← Nat.mul_assoc];exact h1.symm
  conv=>lhs;rw [e]
  rw [Nat.mul_add_div hp]
 rw [h3]
 generalize m % (p*2)=b at *
 split
 ·have:b / p=1:=by
   rw [Nat.div_eq_iff hp];omega
  omega
 ·have:b / p=0:=Nat.div_eq_of_lt (by omega)
  omega
theorem sizeR_eq (m n:Nat):sizeR m n=m / 2 ^ n+if 1 < 2 ^ n∧2 ^ n - m % 2 ^ n≤m % 2 ^ n then 1 else 0:=by
 unfold sizeR
 have hb:m % 2 ^ n < 2 ^ n:=Nat.mod_lt _ (Nat.two_pow_pos n)
 cases n with
 | zero=>simp
 | succ k =>
  rw [if_neg (by omega),Nat.add_sub_cancel,half_bit]
  have hp:0 < 2 ^ k:=Nat.two_pow_pos k
  have e:2 ^ (k+1)=2 ^ k*2:=Nat.pow_succ 2 k
  generalize m % 2 ^ (k+1)=b at *
  congr 1
  by_cases h:2 ^ (k+1)≤2*b
  ·rw [if_pos h,if_pos (by omega)]
  ·rw [if_neg h,if_neg (by omega)]
theorem rround_any (v s:Int) (w:World) (hv:InK .i64 v):Calls Tryz.prog 94 #[.int .i64 v,.int .i64 s] w fun e w'=>e=.returned (.int .i64 (roundV v s))∧Below w.heap.size w w':=by
 rw [inK_i64] at hv
 obtain ⟨hv1,hv2⟩:=hv
 unfold roundV
 by_cases a1:s < 0
 ·rw [if_pos (.inl a1)]
  go_enter Tryz.func94,Tryz.ntmps94
  go_wp2_with fail
  go_ret
  exact ⟨rfl,Below.refl _ _⟩
 ·by_cases a2:62 < s
  ·rw [if_pos (.inr a2)]
   go_enter Tryz.func94,Tryz.ntmps94
   go_wp2_with fail
   go_ret
   exact ⟨rfl,Below.refl _ _⟩
  ·rw [if_neg (by omega)]
   obtain ⟨n,rfl⟩:∃ n:Nat,s=n:=⟨s.toNat,by omega⟩
   rw [Int.toNat_natCast]
   have hs62:(n:Int)≤62:=by omega
   have PB:=zH (fun i (h:i≤n)=>show 1≤2 ^ i∧2 ^ i≤4611686018427387904 from ⟨Nat.two_pow_pos i,Nat.le_trans (Nat.pow_le_pow_right (by decide) (show i≤62 by omega)) (by decide)⟩)
   clear a1 a2
   obtain ⟨res,hres⟩:∃ res:Int,(if v < 0 then -(sizeR v.natAbs n:Int) else (sizeR v.natAbs n:Int))=res:=⟨_,rfl⟩
   rw [hres]
   have HR:=zH hres
   clear hres
   go_enter Tryz.func94,Tryz.ntmps94
   go_wp2_with fail
   go_loopw [5,6] (fun u ii wr=>∃ i:Nat,i≤n∧ii=.int .i64 i∧u=.int .i64 ((2 ^ i:Nat):Int)∧w=wr) (fun _ ii _=>n - (intOf ii).toNat)
   case atStart=>exact ⟨0,Nat.zero_le _,rfl,rfl,rfl⟩
   case round =>
    obtain ⟨i,hi,rfl,rfl,rfl⟩:=hrel
    have hp1:=PB.out i hi
    by_cases hlt:i < n
    ·have p1:(i:Int) < (n:Int):=by omega
     have hp2:=PB.out (i+1) hlt
     have HP:=zH (Nat.pow_succ 2 i)
     rw [HP.out] at hp2
     generalize 2 ^ i=p at *
     go_wp2_with fail
     exact ⟨⟨i+1,by omega,by go_num,by rw [HP.out];go_num,by trivial⟩,by simp [intOf];omega⟩
    ·obtain rfl:i=n:=by omega
     have SE:=zH (sizeR_eq v.natAbs i)
     generalize 2 ^ i=p at *
     obtain ⟨hp3,hp4⟩:=hp1
     have pz:¬ p=0:=by omega
     by_cases b1:v < 0
     ·have hr:=HR.out
      rw [if_pos b1,SE.out] at hr
      obtain ⟨m,rfl⟩:∃ m:Nat,v=-(m:Int):=⟨v.natAbs,by omega⟩
      rw [show (-(m:Int)).natAbs=m by omega] at hr
      have d1:(-(m:Int)).tdiv (p:Int)=-((m / p:Nat):Int):=by rw [Int.neg_tdiv,Int.tdiv_eq_ediv_of_nonneg (by omega)];simp
      have d2:(-(m:Int)).tmod (p:Int)=-((m % p:Nat):Int):=by rw [Int.neg_tmod,Int.tmod_eq_emod_of_nonneg (by omega)];simp
      obtain ⟨a,ha⟩:∃ a,m / p=a:=⟨_,rfl⟩
      obtain ⟨b,hb⟩:∃ b,m % p=b:=⟨_,rfl⟩
      have ha2:a≤m:=by rw [← ha];exact Nat.div_le_self _ _
      have hb2:b < p:=by rw [← hb];exact Nat.mod_lt _ (by omega)
      rw [ha] at d1 hr
      rw [hb] at d2 hr
      have ha3:1 < p → a≤4611686018427387904:=by
       intro h
       rw [← ha]
       have h5:m / p≤m / 2:=Nat.div_le_div_left h (by decide)
       omega
      have ha3:=zH ha3
      clear ha hb SE HR
      have e1:IntKind.i64.wrap (-(a:Int))=-(a:Int):=by rw [IntKind.wrap_i64];omega
      have e2:IntKind.i64.wrap (-(b:Int))=-(b:Int):=by rw [IntKind.wrap_i64];omega
      by_cases c1:b=0
      ·subst c1
       rw [if_neg (by omega),Nat.add_zero] at hr
       subst hr
       have t1:¬ p≤0:=by omega
       have t2:¬ (p:Int)≤0:=by omega
       simp only [Int.natCast_zero,Int.neg_zero,Int.ofNat_zero] at d2 e2
       go_wp2_with fail
       go_quiet (fail)
       go_wp2_with fail
       go_ret
       exact ⟨rfl,below_drewN (Below.refl _ _) _⟩
      ·by_cases c2:p - b≤b
       ·rw [if_pos (by omega)] at hr
        subst hr
        have ha4:=ha3.out (by omega)
        have t1:(p:Int)+-(b:Int)≤(b:Int):=by omega
        have t2:(p:Int) - (b:Int)≤(b:Int):=by omega
        have t3:0 < b:=by omega
        have t4:¬ (0:Int)≤-(b:Int):=by omega
        have t5:-(b:Int) < 0:=by omega
        go_wp2_with fail
        go_quiet (fail)
        go_wp2_with fail
        go_ret
        exact ⟨by show Ending.returned (.int .i64 _)=_;go_num,below_drewN (Below.refl _ _) _⟩
       ·rw [if_neg (by omega),Nat.add_zero] at hr
        subst hr
        have t1:¬ (p:Int)+-(b:Int)≤(b:Int):=by omega
        have t2:¬ (p:Int) - (b:Int)≤(b:Int):=by omega
        have t3:0 < b:=by omega
        have t4:¬ (0:Int)≤-(b:Int):=by omega
        have t5:-(b:Int) < 0:=by omega
        go_wp2_with fail
        go_quiet (fail)
        go_wp2_with fail
        go_ret
        exact ⟨rfl,below_drewN (Below.refl _ _) _⟩
     ·have hr:=HR.out
      rw [if_neg b1,SE.out] at hr
      obtain ⟨m,rfl⟩:∃ m:Nat,v=(m:Int):=⟨v.natAbs,by omega⟩
      rw [show ((m:Int)).natAbs=m by omega] at hr
      have d1:(m:Int).tdiv (p:Int)=((m / p:Nat):Int):=by rw [Int.tdiv_eq_ediv_of_nonneg (by omega)];simp
      have d2:(m:Int).tmod (p:Int)=((m % p:Nat):Int):=by rw [Int.tmod_eq_emod_of_nonneg (by omega)];simp
      obtain ⟨a,ha⟩:∃ a,m / p=a:=⟨_,rfl⟩
      obtain ⟨b,hb⟩:∃ b,m % p=b:=⟨_,rfl⟩
      have ha2:a≤m:=by rw [← ha];exact Nat.div_le_self _ _
      have hb2:b < p:=by rw [← hb];exact Nat.mod_lt _ (by omega)
      rw [ha] at d1 hr
      rw [hb] at d2 hr
      have ha3:1 < p → a≤4611686018427387904:=by
       intro h
       rw [← ha]
       have h5:m / p≤m / 2:=Nat.div_le_div_left h (by decide)
       omega
      clear ha hb SE HR
      have e1:IntKind.i64.wrap (a:Int)=(a:Int):=by rw [IntKind.wrap_i64];omega
      have e2:IntKind.i64.wrap (b:Int)=(b:Int):=by rw [IntKind.wrap_i64];omega
      have t3:¬ (b:Int) < 0:=by omega
      by_cases c2:p - b≤b
      ·rw [if_pos (by omega)] at hr
       subst hr
       have t1:(p:Int) - (b:Int)≤(b:Int):=by omega
       have t2:1 < p:=by omega
       have ha4:=ha3 t2
       clear ha3
       go_wp2_with fail
       go_quiet (fail)
       go_wp2_with fail
       go_ret
       exact ⟨by show Ending.returned (.int .i64 _)=_;go_num,below_drewN (Below.refl _ _) _⟩
      ·rw [if_neg (by omega),Nat.add_zero] at hr
       subst hr
       have t1:¬ (p:Int) - (b:Int)≤(b:Int):=by omega
       clear ha3
       go_wp2_with fail
       go_quiet (fail)
       go_wp2_with fail
       go_ret
       exact ⟨rfl,below_drewN (Below.refl _ _) _⟩
end Go.Proofs.YtjkmjpjknmghlaaGreat
