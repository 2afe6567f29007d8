/-
  sat (layer 1): the product of two integers that is told where it leaves 64 bits. math/bits.Mul64 by the shelf's contract.
-/
import Derived.Test.YtppcjcigekoipaaGreatChecked
import Derived.Shelf.Bits.Mul64
import Derived.Test.YtppcjcigekoipaaGreatJ00
set_option linter.unusedVariables false
set_option linter.unusedSimpArgs false
namespace Go.Proofs
open Go.Shelf
def Tryz.lays264_ren:Go.Shelf.Ren:=⟨fun|264=>179|n=>n,fun|53=>273|46=>296|n=>n,fun|n=>n⟩
theorem Tryz.lays264:Go.Proofs.Lays.n264 Tryz.prog Tryz.lays264_ren:={
 mixed:=by kernel_rfl
 f264:=Tryz.func179.trans (congrArg some (by kernel_rfl))
 t46:=Tryz.underlying296
 a46:=Tryz.isAgg296
 z46:=Tryz.sizeOf296
 v46:=Tryz.zeroValue296
 t53:=Tryz.underlying273
 a53:=Tryz.isAgg273
 z53:=Tryz.sizeOf273
 v53:=Tryz.zeroValue273 }
open Go.RowKit Go.Lib in
theorem Tryz.bits_Mul64 (x y:Nat) (hx:x < 18446744073709551616) (hy:y < 18446744073709551616) (w:World) :
  Calls Tryz.prog 179 #[.int .u64 x,.int .u64 y] w fun e w'=>e=.returned (.tuple #[.int .u64 ((x*y / 18446744073709551616:Nat):Int),.int .u64 ((x*y % 18446744073709551616:Nat):Int)])∧w'=w:=Any.bits_Mul64 Tryz.lays264 x y hx hy w
end Go.Proofs
namespace Go.Proofs.YtppcjcigekoipaaGreat
open Go.RowKit Go.ChangeShapes Go.WideShapes
set_option maxRecDepth 100000
theorem satSize_any (a:Int) (w:World) (ha:InK .i64 a):Calls Tryz.prog 180 #[.int .i64 a] w fun e w'=>e=.returned (.int .u64 (a.natAbs:Int))∧w=w':=by
 rw [inK_i64] at ha
 obtain ⟨a1,a2⟩:=ha
 by_cases h:a < 0
 ·go_enter Tryz.func180,Tryz.ntmps180
  go_wp2
  go_ret
  exact ⟨ret_int (by simp only [IntKind.wrap_u64];omega),rfl⟩
 ·go_enter Tryz.func180,Tryz.ntmps180
  go_wp2
  go_ret
  exact ⟨ret_int (by omega),rfl⟩
def satEnd (p:Int):Ending:=if InK .i64 p then .returned (.tuple #[.int .i64 p,.bool true]) else .returned (.tuple #[.int .i64 0,.bool false])
theorem sat_bad {p:Int} (h:¬ InK .i64 p):Ending.returned (.tuple #[.int .i64 0,.bool false])=satEnd p:=by unfold satEnd;rw [if_neg h]
theorem sat_ok {v p:Int} (h:v=p) (hk:InK .i64 p):Ending.returned (.tuple #[.int .i64 v,.bool true])=satEnd p:=by unfold satEnd;rw [if_pos hk,h]
theorem satTimes_any (a b:Int) (w:World) (ha:InK .i64 a) (hb:InK .i64 b) :
  Calls Tryz.prog 163 #[.int .i64 a,.int .i64 b] w fun e w' =>
   e=satEnd (a*b)∧w=w':=by
 have HA:=zH ha
 have HB:=zH hb
 rw [inK_i64] at ha hb
 obtain ⟨a1,a2⟩:=ha
 obtain ⟨b1,b2⟩:=hb
 obtain ⟨x,hx⟩:∃ x:Nat,x=a.natAbs:=⟨_,rfl⟩
 obtain ⟨y,hy⟩:∃ y:Nat,y=b.natAbs:=⟨_,rfl⟩
 have hx1:x < 18446744073709551616:=by omega
 have hy1:y < 18446744073709551616:=by omega
 obtain ⟨hi,hhi⟩:∃ hi:Nat,hi=x*y / 18446744073709551616:=⟨_,rfl⟩
 obtain ⟨lo,hlo⟩:∃ lo:Nat,lo=x*y % 18446744073709551616:=⟨_,rfl⟩
 have hab:(a*b).natAbs=x*y:=by rw [Int.natAbs_mul,hx,hy]
 have hsg:(a < 0∧b < 0 ∨ 0≤a∧0≤b) → 0≤a*b:=by
  rintro (⟨h,h'⟩|⟨h,h'⟩)
  ·exact Int.le_of_lt (Int.mul_pos_of_neg_of_neg h h')
  ·exact Int.mul_nonneg (by omega) (by omega)
 have hsg2:(a < 0∧0≤b ∨ 0≤a∧b < 0) → a*b≤0:=by
  rintro (⟨h,h'⟩|⟨h,h'⟩)
  ·exact Int.mul_nonpos_of_nonpos_of_nonneg (by omega) (by omega)
  ·exact Int.mul_nonpos_of_nonneg_of_nonpos (by omega) (by omega)
 generalize hp:a*b=p at *
 generalize hq:x*y=q at *
 have HHI:=zH hhi
 have HLO:=zH hlo
 have HX:=zH hx
 have HY:=zH hy
 have HP:=zH hp
 have HQ:=zH hq
 have HAB:=zH hab
 have HS:=zH hsg
 have HS2:=zH hsg2
 clear hhi hlo hx hy hp hq hab hsg hsg2
 go_enter Tryz.func163,Tryz.ntmps163
 go_wp2_with fail
 refine (satSize_any a _ HA.out).mono ?_
 rintro e w1 ⟨rfl,rfl⟩
 go_wp2_with fail
 refine (satSize_any b _ HB.out).mono ?_
 rintro e w1 ⟨rfl,rfl⟩
 rw [← HX.out,← HY.out]
 go_wp2_with fail
 refine (Tryz.bits_Mul64 x y hx1 hy1 _).mono ?_
 rintro e w1 ⟨rfl,rfl⟩
 rw [HQ.out,← HHI.out,← HLO.out]
 by_cases s1:a < 0
 ·by_cases s2:b < 0
  ·have sg:=HS.out (.inl ⟨by omega,by omega⟩)
   have SG:=zH sg
   have t1:decide (a < 0)=true:=by simp;omega
   have t2:decide (b < 0)=true:=by simp;omega
   clear sg
   go_wp2_with fail
   all_goals
    go_ret2
    have k1:=HHI.out
    have k2:=HLO.out
    have k3:=HAB.out
    have k4:=SG.out
    first
     | (refine ⟨sat_bad ?_,rfl⟩;rw [inK_i64];omega;done)
     | (refine ⟨sat_ok ?_ ?_,rfl⟩;((try simp only [IntKind.wrap_u64,IntKind.wrap_i64,wrap64]);omega);rw [inK_i64];omega;done)
  ·have sg:=HS2.out (.inl ⟨by omega,by omega⟩)
   have SG:=zH sg
   have t1:decide (a < 0)=true:=by simp;omega
   have t2:decide (b < 0)=false:=by simp;omega
   clear sg
   go_wp2_with fail
   all_goals
    go_ret2
    have k1:=HHI.out
    have k2:=HLO.out
    have k3:=HAB.out
    have k4:=SG.out
    first
     | (refine ⟨sat_bad ?_,rfl⟩;rw [inK_i64];omega;done)
     | (refine ⟨sat_ok ?_ ?_,rfl⟩;((try simp only [IntKind.wrap_u64,IntKind.wrap_i64,wrap64]);omega);rw [inK_i64];omega;done)
 ·by_cases s2:b < 0
  ·have sg:=HS2.out (.inr ⟨by omega,by omega⟩)
   have SG:=zH sg
   have t1:decide (a < 0)=false:=by simp;omega
   have t2:decide (b < 0)=true:=by simp;omega
   clear sg
   go_wp2_with fail
   all_goals
    go_ret2
    have k1:=HHI.out
    have k2:=HLO.out
    have k3:=HAB.out
    have k4:=SG.out
    first
     | (refine ⟨sat_bad ?_,rfl⟩;rw [inK_i64];omega;done)
     | (refine ⟨sat_ok ?_ ?_,rfl⟩;((try simp only [IntKind.wrap_u64,IntKind.wrap_i64,wrap64]);omega);rw [inK_i64];omega;done)
  ·have sg:=HS.out (.inr ⟨by omega,by omega⟩)
   have SG:=zH sg
   have t1:decide (a < 0)=false:=by simp;omega
   have t2:decide (b < 0)=false:=by simp;omega
   clear sg
   go_wp2_with fail
   all_goals
    go_ret2
    have k1:=HHI.out
    have k2:=HLO.out
    have k3:=HAB.out
    have k4:=SG.out
    first
     | (refine ⟨sat_bad ?_,rfl⟩;rw [inK_i64];omega;done)
     | (refine ⟨sat_ok ?_ ?_,rfl⟩;((try simp only [IntKind.wrap_u64,IntKind.wrap_i64,wrap64]);omega);rw [inK_i64];omega;done)
end Go.Proofs.YtppcjcigekoipaaGreat
