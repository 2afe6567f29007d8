/-
  Rows multiplied (layer 13): gemm.Dot of rows that are as long; gemm.may of three numbers.
  A product is shifted and rounded (layer 2): fix.Round, the document's Round.
  Numbers scaled and held (layer 2): fix.Scale, fix.Held, the document's Held.
-/
import Derived.BigQuiet
import Derived.Test.YtlbkekabmpienaaGreatJ11
import Derived.Test.YtlbkekabmpienaaGreatJ02
import Derived.Test.YtlbkekabmpienaaGreatJ00
import Derived.Laws.Bits64b
import Derived.Laws.ShiftsVarLaws
import Derived.Test.YtlbkekabmpienaaGreatJ13
namespace Go.Proofs.YtlbkekabmpienaaGreat
set_option linter.unusedVariables false
set_option linter.unusedSimpArgs false
open Go.RowKit Go.ChangeShapes Go.WideShapes Fx
set_option maxRecDepth 100000
set_option maxHeartbeats 4000000
def dotN (a b:List Int) (n:Nat):Int:=sumN n fun i=>a.getD i 0*b.getD i 0
theorem dot_any (A A':Option Addr) (n cap cap':Nat) (a b:List Int) (w:World) (ha:Sl (tInt .i16) w (blo w.heap.size) A n cap a) (hb:Sl (tInt .i8) w (blo w.heap.size) A' n cap' b) (hn:n≤65536) :
  Calls Tryz.prog 142 #[.slice A n cap,.slice A' n cap'] w fun e w'=>e=.returned (.int .i32 (wrap32 (dotN a b n)))∧Below w.heap.size w w':=by
 have HA:=zH ha
 have HB:=zH hb
 have z0:=zH (show wrap32 (dotN a b 0)=0 by unfold dotN;rw [show sumN 0 (fun i=>a.getD i 0*b.getD i 0)=0 from rfl];unfold wrap32;decide)
 clear ha hb
 go_enter Tryz.func142,Tryz.ntmps142
 go_wp2_with fail
 go_loopw [5,12] (fun u ii wr=>∃ k:Nat,k≤n∧ii=.int .i64 k∧u=.int .i32 (wrap32 (dotN a b k))∧Below w.heap.size w wr) (fun _ ii _=>n - (intOf ii).toNat)
 case atStart=>exact ⟨0,Nat.zero_le _,rfl,by rw [z0.out],Below.refl _ _⟩
 case round =>
  obtain ⟨k,hk,rfl,rfl,hbl⟩:=hrel
  have HBL:=zH hbl
  clear hbl
  by_cases hlt:k < n
  ·have p1:(k:Int) < (n:Int):=by omega
   obtain ⟨ba,oa,rfl,-,-,cx,ix⟩:=((Old.now HA.out).fut HBL.out).all.int_at k hlt
   obtain ⟨bz,oz,rfl,-,-,cy,iy⟩:=((Old.now HB.out).fut HBL.out).all.int_at k hlt
   have hs:dotN a b (k+1)=dotN a b k+a.getD k 0*b.getD k 0:=rfl
   obtain ⟨x,hx⟩:∃ x,a.getD k 0=x:=⟨_,rfl⟩
   obtain ⟨y,hy⟩:∃ x,b.getD k 0=x:=⟨_,rfl⟩
   rw [hx] at cx ix hs
   rw [hy] at cy iy hs
   rw [inK_i16] at ix
   rw [inK_i8] at iy
   have hm:=natAbs_mul_le (a:=x) (b:=y) (m:=32768) (n:=128) (by omega) (by omega)
   obtain ⟨i1,i2⟩:=ix
   obtain ⟨i3,i4⟩:=iy
   obtain ⟨pr,hpr⟩:∃ m,x*y=m:=⟨_,rfl⟩
   rw [hpr] at hm hs
   have m1:-4194304≤pr:=by omega
   have m2:pr≤4194304:=by omega
   obtain ⟨D,hD⟩:∃ m,dotN a b k=m:=⟨_,rfl⟩
   rw [hD] at hs ⊢
   have HS:=zH hs
   obtain ⟨ac,hac⟩:∃ m,wrap32 D=m:=⟨_,rfl⟩
   have HC:=zH hac
   have b1:-2147483648≤ac:=by rw [← hac];exact (wrap32_in D).1
   have b2:ac≤2147483647:=by rw [← hac];exact (wrap32_in D).2
   rw [hac]
   clear hx hy hs hm hD hac
   go_wp2_with fail
   go_quiet (fail)
   go_wp2_with fail
   exact ⟨⟨k+1,by omega,by go_num,by rw [HS.out,← HC.out,wrap32_add],below_drewN HBL.out _⟩,by simp [intOf];omega⟩
  ·obtain rfl:k=n:=by omega
   go_wp2_with fail
   go_ret
   exact ⟨rfl,HBL.out⟩
end Go.Proofs.YtlbkekabmpienaaGreat
namespace Go.Proofs.YtlbkekabmpienaaGreat
set_option linter.unusedVariables false
set_option linter.unusedSimpArgs false
open Go.RowKit Go.ChangeShapes Go.WideShapes
set_option maxRecDepth 100000
set_option maxHeartbeats 2000000
/-- A whole number's size, shifted and rounded: halves go away from 0. -/
def sizeR (m:Nat) (s:Nat):Nat:=m / 2 ^ s+if s=0 then 0 else m / 2 ^ (s - 1) % 2
def roundV (v s:Int):Int:=if s < 0 ∨ 62 < s then 0 else if v < 0 then -(sizeR v.natAbs s.toNat:Int) else (sizeR v.natAbs s.toNat:Int)
theorem sizeR_le (m s:Nat):sizeR m s≤m:=by
 unfold sizeR
 split
 ·rename_i h;subst h;simp
 ·rename_i h
  obtain ⟨k,rfl⟩:∃ k,s=k+1:=⟨s - 1,by omega⟩
  rw [Nat.add_sub_cancel,Nat.pow_succ,← Nat.div_div_eq_div_mul]
  have:=Nat.div_le_self m (2 ^ k)
  omega
theorem and_half (m k:Nat) (hm:m < 18446744073709551616) (hk:k < 63):bits .and .u64 (m:Int) ((2 ^ k:Nat):Int) / ((2:Int) ^ k)=((m / 2 ^ k % 2:Nat):Int):=by
 have hp:2 ^ k < 18446744073709551616:=Nat.lt_of_lt_of_le (Nat.pow_lt_pow_right (by decide) hk) (by decide)
 rw [bits_and_u64_nat m (2 ^ k) hm hp]
 have:m &&& 2 ^ k=m / 2 ^ k % 2*2 ^ k:=by
  have e:=and_bit_var 64 m (k:Int) (by omega)
  rw [Int.toNat_natCast,Nat.min_eq_left (by omega),if_neg (by omega)] at e
  have e2:((2:Int) ^ k % 2 ^ 64).toNat=2 ^ k:=by
   have e3:((2:Int) ^ k)=((2 ^ k:Nat):Int):=by simp
   rw [e3]
   generalize 2 ^ k=p at *
   omega
  rw [e2] at e
  exact e
 rw [this,show ((2:Int) ^ k)=((2 ^ k:Nat):Int) by simp,← Int.natCast_ediv,Nat.mul_div_cancel _ (Nat.two_pow_pos k)]
theorem size_eq (m k:Nat) (hm:m≤9223372036854775808) (hk:k < 63):IntKind.u64.wrap ((m:Int) / 2 ^ (k+1)+bits BinOp.and IntKind.u64 (m:Int) (IntKind.u64.wrap (2 ^ k)) / 2 ^ k)=(sizeR m (k+1):Int):=by
 have hp:2 ^ k < 18446744073709551616:=Nat.lt_of_lt_of_le (Nat.pow_lt_pow_right (by decide) hk) (by decide)
 have e0:IntKind.u64.wrap (2 ^ k)=((2 ^ k:Nat):Int):=by
  rw [show ((2:Int) ^ k)=((2 ^ k:Nat):Int) by simp,IntKind.wrap_u64]
  generalize 2 ^ k=p at *
  omega
 rw [e0,and_half m k (by omega) hk,show ((2:Int) ^ (k+1))=((2 ^ (k+1):Nat):Int) by simp,← Int.natCast_ediv,← Int.natCast_add]
 have e1:m / 2 ^ (k+1)+m / 2 ^ k % 2=sizeR m (k+1):=by unfold sizeR;rw [if_neg (by omega),Nat.add_sub_cancel]
 have:=sizeR_le m (k+1)
 rw [e1,IntKind.wrap_u64]
 omega
theorem round_any (v s:Int) (w:World) (hv:InK .i64 v):Calls Tryz.prog 147 #[.int .i64 v,.int .i64 s] w fun e w'=>e=.returned (.int .i64 (roundV v s))∧Below w.heap.size w w':=by
 rw [inK_i64] at hv
 obtain ⟨hv1,hv2⟩:=hv
 unfold roundV
 by_cases a1:s < 0
 ·rw [if_pos (.inl a1)]
  go_enter Tryz.func147,Tryz.ntmps147
  go_wp2_with fail
  go_step3
  go_wp2_with fail
  rw [Exit.noGoto_ret]
  go_ret
  exact ⟨rfl,Below.refl _ _⟩
 ·by_cases a2:62 < s
  ·rw [if_pos (.inr a2)]
   go_enter Tryz.func147,Tryz.ntmps147
   go_wp2_with fail
   go_step3
   go_wp2_with fail
   rw [Exit.noGoto_ret]
   go_ret
   exact ⟨rfl,Below.refl _ _⟩
  ·rw [if_neg (by omega)]
   obtain ⟨n,rfl⟩:∃ n:Nat,s=n:=⟨s.toNat,by omega⟩
   rw [Int.toNat_natCast]
   have hs62:n≤62:=by omega
   clear a1 a2
   by_cases b1:v < 0
   ·rw [if_pos b1]
    obtain ⟨m,rfl⟩:∃ m:Nat,v=-(m:Int):=⟨v.natAbs,by omega⟩
    rw [show (-(m:Int)).natAbs=m by omega]
    have b2:¬ m=0:=by omega
    have hm:m≤9223372036854775808:=by omega
    obtain ⟨x,hx⟩:∃ x:Int,18446744073709551616 - (m:Int)=x:=⟨_,rfl⟩
    have u1:IntKind.u64.wrap (-(m:Int))=x:=by rw [IntKind.wrap_u64];omega
    have u2:IntKind.u64.wrap (-x)=(m:Int):=by rw [IntKind.wrap_u64];omega
    have u5:wrap64 x=-(m:Int):=by rw [← hx];unfold wrap64;omega
    obtain ⟨r,hr⟩:∃ r,sizeR m n=r:=⟨_,rfl⟩
    have hrm:r≤m:=by rw [← hr];exact sizeR_le m n
    obtain ⟨y,hy⟩:∃ y:Int,(-(r:Int)) % 18446744073709551616=y:=⟨_,rfl⟩
    have u3:IntKind.u64.wrap (-(r:Int))=y:=by rw [IntKind.wrap_u64,hy]
    have u4:IntKind.i64.wrap y=-(r:Int):=by rw [IntKind.wrap_i64,← hy];omega
    rw [hr]
    have b3:¬ (0:Int)≤-(m:Int):=by omega
    by_cases c1:n=0
    ·subst c1
     obtain rfl:m=r:=by rw [← hr];simp [sizeR]
     clear hx hy hr
     go_enter Tryz.func147,Tryz.ntmps147
     go_wp2_with fail
     go_step3
     go_wp2_with fail
     go_step3
     go_wp2_with fail
     rw [Exit.noGoto_ret]
     go_ret
     exact ⟨by show Ending.returned (.int .i64 (wrap64 x))=_;rw [u5],Below.refl _ _⟩
    ·obtain ⟨k,rfl⟩:∃ k,n=k+1:=⟨n - 1,by omega⟩
     have HR:=zH (size_eq m k hm (by omega))
     rw [hr] at HR
     clear hx hy hr
     go_enter Tryz.func147,Tryz.ntmps147
     go_wp2_with fail
     go_step3
     go_wp2_with fail
     go_step3
     go_wp2_with fail
     go_quiet (fail)
     rw [HR.out]
     go_wp2_with fail
     rw [Exit.noGoto_ret]
     go_ret
     exact ⟨rfl,below_drewN (Below.refl _ _) _⟩
   ·rw [if_neg b1]
    obtain ⟨m,rfl⟩:∃ m:Nat,v=(m:Int):=⟨v.natAbs,by omega⟩
    rw [show ((m:Int)).natAbs=m by omega]
    obtain ⟨r,hr⟩:∃ r,sizeR m n=r:=⟨_,rfl⟩
    have hrm:r≤m:=by rw [← hr];exact sizeR_le m n
    rw [hr]
    by_cases c1:n=0
    ·subst c1
     obtain rfl:m=r:=by rw [← hr];simp [sizeR]
     clear hr
     go_enter Tryz.func147,Tryz.ntmps147
     go_wp2_with fail
     refine wp_scope_fore 0 rfl ?_
     go_wp2_with fail
     go_step3
     refine ⟨rfl,?_⟩
     go_wp2_with fail
     rw [Exit.noGoto_ret]
     go_ret
     exact ⟨rfl,Below.refl _ _⟩
    ·obtain ⟨k,rfl⟩:∃ k,n=k+1:=⟨n - 1,by omega⟩
     have HR:=zH (size_eq m k (by omega) (by omega))
     rw [hr] at HR
     clear hr
     go_enter Tryz.func147,Tryz.ntmps147
     go_wp2_with fail
     refine wp_scope_fore 0 rfl ?_
     go_wp2_with fail
     go_step3
     refine ⟨rfl,?_⟩
     go_wp2_with fail
     go_quiet (fail)
     rw [HR.out]
     go_wp2_with fail
     rw [Exit.noGoto_ret]
     go_ret
     exact ⟨rfl,below_drewN (Below.refl _ _) _⟩
end Go.Proofs.YtlbkekabmpienaaGreat
namespace Go.Proofs.YtlbkekabmpienaaGreat
set_option linter.unusedVariables false
set_option linter.unusedSimpArgs false
open Go.RowKit Go.ChangeShapes Go.WideShapes Fx
set_option maxRecDepth 100000
set_option maxHeartbeats 2000000
theorem roundV_le (v s:Int) (b:Nat) (h:v.natAbs≤b):(roundV v s).natAbs≤b:=by
 unfold roundV
 have:=sizeR_le v.natAbs s.toNat
 split
 ·simp
 ·split <;> omega
theorem prod32 {a b:Int} (ha:InK .i32 a) (hb:InK .i32 b):(a*b).natAbs≤4611686018427387904:=by
 rw [inK_i32] at ha hb
 exact Nat.le_trans (natAbs_mul_le (m:=2147483648) (n:=2147483648) (by omega) (by omega)) (by decide)
theorem scale_any (acc m s:Int) (w:World) (ha:InK .i32 acc) (hm:InK .i32 m) :
  Calls Tryz.prog 131 #[.int .i32 acc,.int .i32 m,.int .i64 s] w fun e w'=>e=.returned (.int .i64 (roundV (acc*m) s))∧Below w.heap.size w w':=by
 have hp:=prod32 ha hm
 rw [inK_i32] at ha hm
 obtain ⟨a1,a2⟩:=ha
 obtain ⟨m1,m2⟩:=hm
 obtain ⟨p,hpp⟩:∃ p,acc*m=p:=⟨_,rfl⟩
 rw [hpp] at hp ⊢
 have e1:IntKind.i64.wrap (acc*m)=p:=by rw [hpp];exact IntWalk.i64_in _ (by omega)
 have RA:=zH (fun w=>round_any p s w (by rw [inK_i64];omega))
 have e3:p≤4611686018427387904:=by omega
 have e4:-4611686018427387904≤p:=by omega
 clear hp
 go_enter Tryz.func131,Tryz.ntmps131
 go_wp2_with (go_at_call 147;refine (RA.out _).mono ?_;rintro e w2 ⟨rfl,hb⟩)
 go_ret
 exact ⟨rfl,hb⟩
/-- A sum scaled and held. -/
def heldQ (acc m s z lo hi:Int):Int:=if quantOk m s=true then w8 (heldV (roundV (acc*m) s+z) lo hi) else 0
theorem heldQ_in (acc m s z lo hi:Int):InK .i8 (heldQ acc m s z lo hi):=by
 unfold heldQ
 split
 ·exact w8_in _
 ·decide
theorem fixHeld_any (acc m s z lo hi:Int) (w:World) (ha:InK .i32 acc) (hm:InK .i32 m) (hz:InK .i8 z) (hlo:InK .i8 lo) (hhi:InK .i8 hi) :
  Calls Tryz.prog 132 #[.int .i32 acc,.agg #[.int .i32 m,.int .i64 s,.int .i8 z],.int .i8 lo,.int .i8 hi] w fun e w'=>e=.returned (.int .i8 (heldQ acc m s z lo hi))∧Below w.heap.size w w':=by
 have hp:=roundV_le (acc*m) s _ (prod32 ha hm)
 have QR:=zH (fun w=>fixRight_any m s z w)
 have SC:=zH (fun w=>scale_any acc m s w ha hm)
 have HH:=zH (show heldQ acc m s z lo hi=if quantOk m s=true then w8 (heldV (roundV (acc*m) s+z) lo hi) else 0 from rfl)
 obtain ⟨r,hr⟩:∃ r,roundV (acc*m) s=r:=⟨_,rfl⟩
 rw [hr] at hp SC HH
 rw [inK_i8] at hz
 obtain ⟨z1,z2⟩:=hz
 have e1:IntKind.i64.wrap (r+z)=r+z:=IntWalk.i64_in _ (by omega)
 have e2:IntKind.i64.wrap z=z:=IntWalk.i64_in _ (by omega)
 have CL:=zH (fun w=>clamp_any (r+z) lo hi w hlo hhi)
 obtain ⟨q,hq⟩:∃ q,quantOk m s=q:=⟨_,rfl⟩
 rw [hq] at QR HH
 have FR:=zH (Far.refl w)
 obtain ⟨w1,hw_w1,BQ,k_w1⟩:=nB w #[.int .i32 m,.int .i64 s,.int .i8 z] 26
 replace FR:=zH (FR.out.fut k_w1)
 clear k_w1
 have d0:=BQ.out.cell 0
 have d1:=BQ.out.cell 1
 have d2:=BQ.out.cell 2
 clear hr hq ha hm hlo hhi
 cases q with
 | false =>
  rw [if_neg (by decide)] at HH
  rw [HH.out]
  go_enter Tryz.func132,Tryz.ntmps132
  go_wp2_with (go_at_call 50;refine (QR.out _).mono ?_;rintro e w2 ⟨rfl,hb⟩)
  go_ret
  exact ⟨rfl,(FR.out.fut hb).out⟩
 | true =>
  rw [if_pos rfl] at HH
  rw [HH.out]
  go_enter Tryz.func132,Tryz.ntmps132
  go_wp2_with (go_at_call 50;refine (QR.out _).mono ?_;rintro e w2 ⟨rfl,hb⟩)
  replace FR:=zH (FR.out.fut hb)
  replace BQ:=zH (BQ.out.fut hb)
  clear d0 d1 d2 hw_w1 hb
  have d0:∀ q:Ext w2,q.1.cell? ⟨w.heap.size,0,none⟩=some (.int .i32 m):=fun q=>(BQ.out.ext q).cell 0
  have d1:∀ q:Ext w2,q.1.cell? ⟨w.heap.size,1,none⟩=some (.int .i64 s):=fun q=>(BQ.out.ext q).cell 1
  have d2:∀ q:Ext w2,q.1.cell? ⟨w.heap.size,2,none⟩=some (.int .i8 z):=fun q=>(BQ.out.ext q).cell 2
  have E1:=zH (fun q:Ext w2=>calls_ext q (SC.out q.1))
  have E2:=zH (fun q:Ext w2=>calls_ext q ((CL.out q.1).mono (fun e w' h=>⟨h.1,by rw [← h.2];exact Below.refl _ _⟩)))
  refine wp_region_ext w2 (by kernel_rfl) (by kernel_rfl) (Below.refl _ _) ?_
  repeat (go_big_quiet_step (first|(exact E1.out _)|(exact E2.out _)))
  refine wpQuiet_nil ?_
  rintro _ ⟨⟨w3,hB⟩,rfl⟩
  go_wp2_with fail
  go_ret
  exact ⟨rfl,(FR.out.fut hB).out⟩
end Go.Proofs.YtlbkekabmpienaaGreat
