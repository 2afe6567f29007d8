/-
  A product is shifted and rounded (layer 2): the document's Round.
  Numbers scaled and held (layer 2): fix.Scale, fix.Held, the document's Held.
  Sums scaled and held, all of a row (layer 2): the document's All.
  Sums, and numbers, scaled and held (layer 21): act.One, act.Put, the document's One, Put.
  Numbers by a function (layer 21): the document's Of, of a tensor that is right.
  Two numbers joined (layer 20): join.may, join.scaled, join.One, the document's One.
-/
import Derived.Test.YtlbkekabmpienaaGreatJ16
import Derived.Test.YtlbkekabmpienaaGreatJ00
import Derived.Test.YtlbkekabmpienaaGreatJ15
import Derived.Test.YtlbkekabmpienaaGreatKA00
import Derived.Test.YtlbkekabmpienaaGreatJ03
import Derived.Test.YtlbkekabmpienaaGreatJ18
import Derived.Test.YtlbkekabmpienaaGreatKA04
import Derived.Test.YtlbkekabmpienaaGreatJ19
import Derived.Test.YtlbkekabmpienaaGreatJ07
import Derived.Test.YtlbkekabmpienaaGreatJ08
import Derived.Test.YtlbkekabmpienaaGreatJ05
import Derived.Test.YtlbkekabmpienaaGreatJ04
import Derived.Test.YtlbkekabmpienaaGreatJ02
import Derived.Test.YtlbkekabmpienaaGreatJ01
import Derived.Test.YtlbkekabmpienaaGreatJ26
import Derived.Test.YtlbkekabmpienaaGreatJ27
namespace Go.Proofs.YtlbkekabmpienaaGreat
set_option linter.unusedVariables false
set_option linter.unusedSimpArgs false
open Go.RowKit Go.ChangeShapes Go.WideShapes
set_option maxRecDepth 100000
set_option maxHeartbeats 2000000
theorem half_bit (m k:Nat):m / 2 ^ k % 2=if 2 ^ (k+1)≤2*(m % 2 ^ (k+1)) then 1 else 0:=by
 have hp:0 < 2 ^ k:=Nat.two_pow_pos k
 rw [Nat.pow_succ]
 generalize 2 ^ k=p at *
 have h1:=Nat.div_add_mod m (p*2)
 have h2:m % (p*2) < p*2:=Nat.mod_lt _ (by omega)
 have h3:m / p=2*(m / (p*2))+m % (p*2) / p:=by
  have e:m=p*(2*(m / (p*2)))+m % (p*2):=by rw [← Nat.mul_assoc];exact h1.symm
  conv=>lhs;rw [e]
  rw [Nat.mul_add_div hp]
 rw [h3]
 generalize m % (p*2)=b at *
 split
 ·have:b / p=1:=by
   rw [Nat.div_eq_iff hp];omega
  omega
 ·have:b / p=0:=Nat.div_eq_of_lt (by omega)
  omega
theorem sizeR_eq (m n:Nat):sizeR m n=m / 2 ^ n+if 1 < 2 ^ n∧2 ^ n - m % 2 ^ n≤m % 2 ^ n then 1 else 0:=by
 unfold sizeR
 have hb:m % 2 ^ n < 2 ^ n:=Nat.mod_lt _ (Nat.two_pow_pos n)
 cases n with
 | zero=>simp
 | succ k =>
  rw [if_neg (by omega),Nat.add_sub_cancel,half_bit]
  have hp:0 < 2 ^ k:=Nat.two_pow_pos k
  have e:2 ^ (k+1)=2 ^ k*2:=Nat.pow_succ 2 k
  generalize m % 2 ^ (k+1)=b at *
  congr 1
  by_cases h:2 ^ (k+1)≤2*b
  ·rw [if_pos h,if_pos (by omega)]
  ·rw [if_neg h,if_neg (by omega)]
theorem rround_any (v s:Int) (w:World) (hv:InK .i64 v):Calls Tryz.prog 108 #[.int .i64 v,.int .i64 s] w fun e w'=>e=.returned (.int .i64 (roundV v s))∧Below w.heap.size w w':=by
 rw [inK_i64] at hv
 obtain ⟨hv1,hv2⟩:=hv
 unfold roundV
 by_cases a1:s < 0
 ·rw [if_pos (.inl a1)]
  go_enter Tryz.func108,Tryz.ntmps108
  go_wp2_with fail
  go_ret
  exact ⟨rfl,Below.refl _ _⟩
 ·by_cases a2:62 < s
  ·rw [if_pos (.inr a2)]
   go_enter Tryz.func108,Tryz.ntmps108
   go_wp2_with fail
   go_ret
   exact ⟨rfl,Below.refl _ _⟩
  ·rw [if_neg (by omega)]
   obtain ⟨n,rfl⟩:∃ n:Nat,s=n:=⟨s.toNat,by omega⟩
   rw [Int.toNat_natCast]
   have hs62:(n:Int)≤62:=by omega
   have PB:=zH (fun i (h:i≤n)=>show 1≤2 ^ i∧2 ^ i≤4611686018427387904 from ⟨Nat.two_pow_pos i,Nat.le_trans (Nat.pow_le_pow_right (by decide) (show i≤62 by omega)) (by decide)⟩)
   clear a1 a2
   obtain ⟨res,hres⟩:∃ res:Int,(if v < 0 then -(sizeR v.natAbs n:Int) else (sizeR v.natAbs n:Int))=res:=⟨_,rfl⟩
   rw [hres]
   have HR:=zH hres
   clear hres
   go_enter Tryz.func108,Tryz.ntmps108
   go_wp2_with fail
   go_loopw [5,6] (fun u ii wr=>∃ i:Nat,i≤n∧ii=.int .i64 i∧u=.int .i64 ((2 ^ i:Nat):Int)∧w=wr) (fun _ ii _=>n - (intOf ii).toNat)
   case atStart=>exact ⟨0,Nat.zero_le _,rfl,rfl,rfl⟩
   case round =>
    obtain ⟨i,hi,rfl,rfl,rfl⟩:=hrel
    have hp1:=PB.out i hi
    by_cases hlt:i < n
    ·have p1:(i:Int) < (n:Int):=by omega
     have hp2:=PB.out (i+1) hlt
     have HP:=zH (Nat.pow_succ 2 i)
     rw [HP.out] at hp2
     generalize 2 ^ i=p at *
     go_wp2_with fail
     exact ⟨⟨i+1,by omega,by go_num,by rw [HP.out];go_num,by trivial⟩,by simp [intOf];omega⟩
    ·obtain rfl:i=n:=by omega
     have SE:=zH (sizeR_eq v.natAbs i)
     generalize 2 ^ i=p at *
     obtain ⟨hp3,hp4⟩:=hp1
     have pz:¬ p=0:=by omega
     by_cases b1:v < 0
     ·have hr:=HR.out
      rw [if_pos b1,SE.out] at hr
      obtain ⟨m,rfl⟩:∃ m:Nat,v=-(m:Int):=⟨v.natAbs,by omega⟩
      rw [show (-(m:Int)).natAbs=m by omega] at hr
      have d1:(-(m:Int)).tdiv (p:Int)=-((m / p:Nat):Int):=by rw [Int.neg_tdiv,Int.tdiv_eq_ediv_of_nonneg (by omega)];simp
      have d2:(-(m:Int)).tmod (p:Int)=-((m % p:Nat):Int):=by rw [Int.neg_tmod,Int.tmod_eq_emod_of_nonneg (by omega)];simp
      obtain ⟨a,ha⟩:∃ a,m / p=a:=⟨_,rfl⟩
      obtain ⟨b,hb⟩:∃ b,m % p=b:=⟨_,rfl⟩
      have ha2:a≤m:=by rw [← ha];exact Nat.div_le_self _ _
      have hb2:b < p:=by rw [← hb];exact Nat.mod_lt _ (by omega)
      rw [ha] at d1 hr
      rw [hb] at d2 hr
      have ha3:1 < p → a≤4611686018427387904:=by
       intro h
       rw [← ha]
       have h5:m / p≤m / 2:=Nat.div_le_div_left h (by decide)
       omega
      have ha3:=zH ha3
      clear ha hb SE HR
      have e1:IntKind.i64.wrap (-(a:Int))=-(a:Int):=by rw [IntKind.wrap_i64];omega
      have e2:IntKind.i64.wrap (-(b:Int))=-(b:Int):=by rw [IntKind.wrap_i64];omega
      by_cases c1:b=0
      ·subst c1
       rw [if_neg (by omega),Nat.add_zero] at hr
       subst hr
       have t1:¬ p≤0:=by omega
       have t2:¬ (p:Int)≤0:=by omega
       simp only [Int.natCast_zero,Int.neg_zero,Int.ofNat_zero] at d2 e2
       go_wp2_with fail
       go_quiet (fail)
       go_wp2_with fail
       go_ret
       exact ⟨rfl,below_drewN (Below.refl _ _) _⟩
      ·by_cases c2:p - b≤b
       ·rw [if_pos (by omega)] at hr
        subst hr
        have ha4:=ha3.out (by omega)
        have t1:(p:Int)+-(b:Int)≤(b:Int):=by omega
        have t2:(p:Int) - (b:Int)≤(b:Int):=by omega
        have t3:0 < b:=by omega
        have t4:¬ (0:Int)≤-(b:Int):=by omega
        have t5:-(b:Int) < 0:=by omega
        go_wp2_with fail
        go_quiet (fail)
        go_wp2_with fail
        go_ret
        exact ⟨by show Ending.returned (.int .i64 _)=_;go_num,below_drewN (Below.refl _ _) _⟩
       ·rw [if_neg (by omega),Nat.add_zero] at hr
        subst hr
        have t1:¬ (p:Int)+-(b:Int)≤(b:Int):=by omega
        have t2:¬ (p:Int) - (b:Int)≤(b:Int):=by omega
        have t3:0 < b:=by omega
        have t4:¬ (0:Int)≤-(b:Int):=by omega
        have t5:-(b:Int) < 0:=by omega
        go_wp2_with fail
        go_quiet (fail)
        go_wp2_with fail
        go_ret
        exact ⟨rfl,below_drewN (Below.refl _ _) _⟩
     ·have hr:=HR.out
      rw [if_neg b1,SE.out] at hr
      obtain ⟨m,rfl⟩:∃ m:Nat,v=(m:Int):=⟨v.natAbs,by omega⟩
      rw [show ((m:Int)).natAbs=m by omega] at hr
      have d1:(m:Int).tdiv (p:Int)=((m / p:Nat):Int):=by rw [Int.tdiv_eq_ediv_of_nonneg (by omega)];simp
      have d2:(m:Int).tmod (p:Int)=((m % p:Nat):Int):=by rw [Int.tmod_eq_emod_of_nonneg (by omega)];simp
      obtain ⟨a,ha⟩:∃ a,m / p=a:=⟨_,rfl⟩
      obtain ⟨b,hb⟩:∃ b,m % p=b:=⟨_,rfl⟩
      have ha2:a≤m:=by rw [← ha];exact Nat.div_le_self _ _
      have hb2:b < p:=by rw [← hb];exact Nat.mod_lt _ (by omega)
      rw [ha] at d1 hr
      rw [hb] at d2 hr
      have ha3:1 < p → a≤4611686018427387904:=by
       intro h
       rw [← ha]
       have h5:m / p≤m / 2:=Nat.div_le_div_left h (by decide)
       omega
      clear ha hb SE HR
      have e1:IntKind.i64.wrap (a:Int)=(a:Int):=by rw [IntKind.wrap_i64];omega
      have e2:IntKind.i64.wrap (b:Int)=(b:Int):=by rw [IntKind.wrap_i64];omega
      have t3:¬ (b:Int) < 0:=by omega
      by_cases c2:p - b≤b
      ·rw [if_pos (by omega)] at hr
       subst hr
       have t1:(p:Int) - (b:Int)≤(b:Int):=by omega
       have t2:1 < p:=by omega
       have ha4:=ha3 t2
       clear ha3
       go_wp2_with fail
       go_quiet (fail)
       go_wp2_with fail
       go_ret
       exact ⟨by show Ending.returned (.int .i64 _)=_;go_num,below_drewN (Below.refl _ _) _⟩
      ·rw [if_neg (by omega),Nat.add_zero] at hr
       subst hr
       have t1:¬ (p:Int) - (b:Int)≤(b:Int):=by omega
       clear ha3
       go_wp2_with fail
       go_quiet (fail)
       go_wp2_with fail
       go_ret
       exact ⟨rfl,below_drewN (Below.refl _ _) _⟩
end Go.Proofs.YtlbkekabmpienaaGreat
namespace Go.Proofs.YtlbkekabmpienaaGreat
set_option linter.unusedVariables false
set_option linter.unusedSimpArgs false
open Go.RowKit Go.ChangeShapes Go.WideShapes Fx
set_option maxRecDepth 100000
set_option maxHeartbeats 2000000
theorem rfixHeld_any (acc m s z lo hi:Int) (w:World) (ha:InK .i32 acc) (hm:InK .i32 m) (hz:InK .i8 z) (hlo:InK .i8 lo) (hhi:InK .i8 hi) :
  Calls Tryz.prog 110 #[.int .i32 acc,.agg #[.int .i32 m,.int .i64 s,.int .i8 z],.int .i8 lo,.int .i8 hi] w fun e w'=>e=.returned (.int .i8 (heldQ acc m s z lo hi))∧Below w.heap.size w w':=by
 have hp:=roundV_le (acc*m) s _ (prod32 ha hm)
 have hp0:=prod32 ha hm
 have QR:=zH (fun w=>rfixRight_any m s z w)
 obtain ⟨pm,hpm⟩:∃ p,acc*m=p:=⟨_,rfl⟩
 rw [hpm] at hp hp0
 have RA:=zH (fun w=>rround_any pm s w (by rw [inK_i64];omega))
 have HH:=zH (show heldQ acc m s z lo hi=if quantOk m s=true then w8 (heldV (roundV (acc*m) s+z) lo hi) else 0 from rfl)
 rw [hpm] at HH
 obtain ⟨r,hr⟩:∃ r,roundV pm s=r:=⟨_,rfl⟩
 rw [hr] at hp RA HH
 rw [inK_i8] at hz hlo hhi
 rw [inK_i32] at ha hm
 obtain ⟨z1,z2⟩:=hz
 obtain ⟨l1,l2⟩:=hlo
 obtain ⟨h1,h2⟩:=hhi
 obtain ⟨a1,a2⟩:=ha
 obtain ⟨m1,m2⟩:=hm
 have e1:IntKind.i64.wrap (r+z)=r+z:=IntWalk.i64_in _ (by omega)
 have e2:IntKind.i64.wrap z=z:=IntWalk.i64_in _ (by omega)
 have e3:IntKind.i64.wrap (acc*m)=pm:=by rw [hpm];exact IntWalk.i64_in _ (by omega)
 have e4:IntKind.i64.wrap acc=acc:=IntWalk.i64_in _ (by omega)
 have e5:IntKind.i64.wrap m=m:=IntWalk.i64_in _ (by omega)
 have CL:=zH (fun w=>rheld_any (r+z) lo hi w)
 have W8:=zH (show w8 (heldV (r+z) lo hi)=IntKind.i8.wrap (heldV (r+z) lo hi) from rfl)
 rw [W8.out] at HH
 obtain ⟨q,hq⟩:∃ q,quantOk m s=q:=⟨_,rfl⟩
 rw [hq] at QR HH
 have FR:=zH (Far.refl w)
 obtain ⟨w1,hw_w1,BQ,k_w1⟩:=nB w #[.int .i32 m,.int .i64 s,.int .i8 z] 26
 replace FR:=zH (FR.out.fut k_w1)
 clear k_w1
 have d0:=BQ.out.cell 0
 have d1:=BQ.out.cell 1
 have d2:=BQ.out.cell 2
 clear hr hq hpm
 cases q with
 | false =>
  rw [if_neg (by decide)] at HH
  rw [HH.out]
  go_enter Tryz.func110,Tryz.ntmps110
  go_wp2_with (go_at_call 67;refine (QR.out _).mono ?_;rintro e w2 ⟨rfl,hb⟩)
  go_ret
  exact ⟨rfl,(FR.out.fut hb).out⟩
 | true =>
  rw [if_pos rfl] at HH
  rw [HH.out]
  go_enter Tryz.func110,Tryz.ntmps110
  go_wp2_with (go_at_call 67;refine (QR.out _).mono ?_;rintro e w2 ⟨rfl,hb⟩)
  replace FR:=zH (FR.out.fut hb)
  replace BQ:=zH (BQ.out.fut hb)
  clear d0 d1 d2 hw_w1 hb
  have d0:∀ q:Ext w2,q.1.cell? ⟨w.heap.size,0,none⟩=some (.int .i32 m):=fun q=>(BQ.out.ext q).cell 0
  have d1:∀ q:Ext w2,q.1.cell? ⟨w.heap.size,1,none⟩=some (.int .i64 s):=fun q=>(BQ.out.ext q).cell 1
  have d2:∀ q:Ext w2,q.1.cell? ⟨w.heap.size,2,none⟩=some (.int .i8 z):=fun q=>(BQ.out.ext q).cell 2
  have E1:=zH (fun q:Ext w2=>calls_ext q (RA.out q.1))
  refine wp_region_ext w2 (by kernel_rfl) (by kernel_rfl) (Below.refl _ _) ?_
  repeat (go_big_quiet_step ((exact E1.out _)))
  refine wpQuiet_nil ?_
  rintro _ ⟨⟨w3,hB⟩,rfl⟩
  go_wp2_with (go_at_call 109;refine (CL.out _).mono ?_;rintro e w4 ⟨rfl,rfl⟩)
  go_ret
  exact ⟨rfl,(FR.out.fut hB).out⟩
end Go.Proofs.YtlbkekabmpienaaGreat
namespace Go.Proofs.YtlbkekabmpienaaGreat
set_option linter.unusedVariables false
set_option linter.unusedSimpArgs false
open Go.RowKit Go.ChangeShapes Go.WideShapes Fx
set_option maxRecDepth 100000
set_option maxHeartbeats 4000000
theorem rfixAll_any (A:Option Addr) (n cap:Nat) (l:List Int) (m s z lo hi:Int) (w:World) (hl:Sl (tInt .i32) w (blo w.heap.size) A n cap l) (hn:n≤1073741824) (hm:InK .i32 m) (hz:InK .i8 z) (hlo:InK .i8 lo) (hhi:InK .i8 hi) (hq:quantOk m s=true) :
  Calls Tryz.prog 74 #[.slice A n cap,.agg #[.int .i32 m,.int .i64 s,.int .i8 z],.int .i8 lo,.int .i8 hi] w (RetSl (tInt .i8) w (allQ l m s z lo hi)):=by
 have HL:=zH hl
 have QR:=zH (fun w=>rfixRight_any m s z w)
 rw [hq] at QR
 rw [allQ_range hl.n_eq]
 have HD:=zH (fun x (hx:InK .i32 x) w=>rfixHeld_any x m s z lo hi w hx hm hz hlo hhi)
 have mx:n≤9223372036854775807:=by omega
 have FR:=zH (Far.refl w)
 obtain ⟨w1,hw_w1,BQ,k_w1⟩:=nB w #[.int .i32 m,.int .i64 s,.int .i8 z] 26
 replace FR:=zH (FR.out.fut k_w1)
 clear k_w1
 have l1:w1.heap.size=w.heap.size+1:=by rw [← hw_w1];simp
 clear hq hm hz hlo hhi hl
 go_enter Tryz.func74,Tryz.ntmps74
 go_wp2_with fail
 clear hw_w1
 have ON:=zH (show Own (tInt .i8) w1 (fun _=>False) w1.heap.size 22 (.slice none 0 0) 0 ((List.range 0).map fun i=>heldQ (l.getD i 0) m s z lo hi) from Own.nil _ _ _ _ _)
 go_loopw [9,10] (fun u ii wr=>∃ k:Nat,k≤n∧ii=.int .i64 k∧Far w wr∧Blk wr w.heap.size 26 #[.int .i32 m,.int .i64 s,.int .i8 z]∧Own (tInt .i8) wr (fun _=>False) w1.heap.size 22 u k ((List.range k).map fun i=>heldQ (l.getD i 0) m s z lo hi)) (fun _ ii _=>n - (intOf ii).toNat)
 case atStart=>exact ⟨0,Nat.zero_le _,rfl,FR.out,BQ.out,ON.out⟩
 case round =>
  obtain ⟨k,hk,rfl,hf,hbq,hon⟩:=hrel
  clear FR BQ ON
  have FR:=zH hf
  have BQ:=zH hbq
  have ON:=zH hon
  clear hf hbq hon
  have d0:=BQ.out.cell 0
  have d1:=BQ.out.cell 1
  have d2:=BQ.out.cell 2
  by_cases hlt:k < n
  ·have p1:(k:Int) < (n:Int):=by omega
   go_wp2_with (go_at_call 67;refine (QR.out _).mono ?_;rintro e w2 ⟨rfl,hb⟩;replace ON:=zH (ON.out.below hb (Nat.le_refl _) (fun _ h=>h.elim));replace FR:=zH (FR.out.fut hb);replace BQ:=zH (BQ.out.fut hb);clear hb d0 d1 d2)
   obtain ⟨b,o,rfl,-,-,cx,ix⟩:=((Old.now HL.out).fut FR.out.out).all.int_at k hlt
   have FS:=zH (range_snoc (fun i=>heldQ (l.getD i 0) m s z lo hi) k)
   obtain ⟨x,hx⟩:∃ x,l.getD k 0=x:=⟨_,rfl⟩
   rw [hx] at cx ix
   have CX:=zH (HD.out x ix)
   have FE:=zH (show heldQ (l.getD k 0) m s z lo hi=heldQ x m s z lo hi by rw [hx])
   obtain ⟨res,hres⟩:∃ r,heldQ x m s z lo hi=r:=⟨_,rfl⟩
   rw [hres] at CX FE
   have RE:=zH (show InK .i8 res by rw [← hres];exact heldQ_in _ _ _ _ _ _)
   have OD:=zH (ON.out.heap (w':=w2.drew) rfl)
   have fd:Below w.heap.size w w2.drew:=FR.out.out.drew
   have bd:=BQ.out.lt
   have cd:=cell_later ((show Below w2.heap.size w2 w2.drew from (Below.refl _ _).drew)) cx
   have hb9:b < w.heap.size:=by
    obtain ⟨b',o',e',q1,q2,-,-⟩:=HL.out.int_at k hlt
    simp only [Option.some.injEq,Addr.mk.injEq,and_true] at e'
    rw [e'.1]
    exact q1
   have nu:=zH (show ∀ b,b < w1.heap.size → some b ≠ u9.ownBlock from fun b hb e=>absurd (ON.out.lt b e.symm).1 (by omega))
   clear hx hres cx
   refine wp_region_T (fun w'=>w'.cell? ⟨b,o+k,none⟩=some (.int .i32 x)∧Blk w' w.heap.size 26 #[.int .i32 m,.int .i64 s,.int .i8 z]∧Below w.heap.size w w') 11 (by kernel_rfl) ?_ (fun hS=>?_)
   ·exact ⟨cd,BQ.out.drew,fd⟩
   refine tkT 0 rfl (v:=?_) (Or.inl ⟨by rfl,?_⟩) hS ?_
   rotate_left
   ·intro w hSw;(try dsimp only at hSw);go_simp;try with_reducible rfl
   try simp only [pX]
   refine tkT 1 rfl (v:=?_) (Or.inl ⟨by rfl,?_⟩) hS ?_
   rotate_left
   ·intro w hSw;(try dsimp only at hSw);go_simp;try with_reducible rfl
   try simp only [pX]
   refine tkT 2 rfl (v:=?_) (Or.inl ⟨by rfl,?_⟩) hS ?_
   rotate_left
   ·intro w hSw;(try dsimp only at hSw);go_simp;try with_reducible rfl
   try simp only [pX]
   refine tkT 3 rfl (v:=?_) (Or.inl ⟨by rfl,?_⟩) hS ?_
   rotate_left
   ·intro w hSw;(try dsimp only at hSw);go_simp;try with_reducible rfl
   try simp only [pX]
   refine tkT 4 rfl (v:=?_) (Or.inl ⟨by rfl,?_⟩) hS ?_
   rotate_left
   ·intro w hSw;(try dsimp only at hSw);go_simp;try with_reducible rfl
   try simp only [pX]
   refine tkT 5 rfl (yieldsIf_load_blk (by rfl) 26 (.tmp 5) rfl w.heap.size 0 rfl _ _ #[.int .i32 m,.int .i64 s,.int .i8 z] _ (fun w hs=>hs.2.1) Tryz.underlying26 rfl (by kernel_rfl) rfl) hS ?_
   try simp only [pX]
   refine tkT 6 rfl (v:=?_) (Or.inl ⟨by rfl,?_⟩) hS ?_
   rotate_left
   ·intro w hSw;(try dsimp only at hSw);go_simp;try with_reducible rfl
   try simp only [pX]
   refine tkT 7 rfl (v:=?_) (Or.inl ⟨by rfl,?_⟩) hS ?_
   rotate_left
   ·intro w hSw;(try dsimp only at hSw);go_simp;try with_reducible rfl
   try simp only [pX]
   refine wpAnyT_one (i:=8) (by kernel_rfl) rfl rfl (fun K hK=>?_)
   go_simp
   refine (CX.out _).mono ?_;rintro e wa ⟨rfl,hb⟩;have OA:=zH (OD.out.below hb (Nat.le_refl _) (fun _ h=>h.elim));have za:w1.heap.size≤wa.heap.size:=(by have:=hb.size;have:w2.drew.heap.size=w2.heap.size:=rfl;omega);have XX:=zH (And.intro (cell_later hb cd) (And.intro (BQ.out.drew.later hb) (below_call fd hb fd.size)))
   refine hK.out _ _ ?_ (fun hS=>?_)
   ·exact ⟨(by first|exact cell_later hb hS.1|exact Blk.later hS.1 hb),(by first|exact cell_later hb hS.2.1|exact Blk.later hS.2.1 hb),(by first|exact below_later hb hS.2.2|exact grown_below hS.2.2 hb)⟩
   clear hK K
   try simp only [pX]
   refine wpAnyT_one (i:=9) (by kernel_rfl) rfl rfl (fun K hK=>?_)
   go_simp
   have hb:Below wa.heap.size wa (wa.alloc (.cells #[.int .i8 res] 22)):=(Below.refl _ _).alloc (Nat.le_refl _) _
   refine hK.out _ _ ?_ (fun hS=>?_)
   ·exact ⟨(by first|exact cell_later hb hS.1|exact Blk.later hS.1 hb),(by first|exact cell_later hb hS.2.1|exact Blk.later hS.2.1 hb),(by first|exact below_later hb hS.2.2|exact grown_below hS.2.2 hb)⟩
   clear hK K
   try simp only [pX]
   refine wpAnyT_one (i:=10) (by kernel_rfl) rfl rfl (fun K hK=>?_)
   (rw [if_pos (by rfl)];refine oper_push (W:=wa) (cs:=#[.int .i8 res]) (E:=22) (t:=tInt .i8) (.tmp 21) (.tmp 30) rfl ei_b8 rfl OA.out 1 rfl res ⟨rfl,RE.out⟩ (by unfold maxLen;omega) (by omega) za (fun _ h=>h.elim) ?_;intro u' w7 own7 g7 at7;refine hK.out _ _ ⟨cell_grown g7 XX.out.1 (nu.out b (by omega)),XX.out.2.1.rowR g7 (nu.out _ (by omega)),XX.out.2.2.grown g7 XX.out.2.2.size (fun j hj=>Nat.le_trans (by omega) (OA.out.lt j hj).1)⟩ (fun hS=>?_))
   clear hK K
   try simp only [pX]
   refine wpAnyT_tail _ _ rfl rfl (by kernel_rfl) ?_
   have F7:=zH (show Far w w7 from ⟨hS.2.2⟩)
   have B7:=zH hS.2.1
   have fs:=FS.out
   rw [FE.out] at fs
   rw [fs] at own7
   have O7:=zH own7
   clear hS hb nu at7 g7 own7 fs cd
   go_wp2_with fail
   exact ⟨⟨k+1,by omega,by go_num,F7.out,B7.out,O7.out⟩,by simp [intOf];omega⟩
  ·obtain rfl:k=n:=by omega
   go_wp2_with fail
   go_ret
   obtain ⟨A2,c2,rfl,sl⟩:=ON.out.sl (S':=bin w.heap.size _) (by decide) (fun b h1 h2=>⟨by omega,h2⟩) (fun b h=>h.elim)
   exact ⟨_,_,_,rfl,sl,FR.out.out⟩
end Go.Proofs.YtlbkekabmpienaaGreat
namespace Go.Proofs.YtlbkekabmpienaaGreat
set_option linter.unusedVariables false
set_option linter.unusedSimpArgs false
open Go.RowKit Go.ChangeShapes Go.WideShapes Fx
set_option maxRecDepth 100000
set_option maxHeartbeats 4000000
theorem ractOne_any (x:Int) (d:Node) (W:Option Addr) (nw cw:Nat) (B:Option Addr) (nb cb:Nat) (w:World) (hx:InK .i8 x) (hd:NodeIn d) :
  Calls Tryz.prog 72 #[.int .i8 x,.agg #[.int .i64 d.kind,.int .i64 d.a,.int .i64 d.b,.int .i64 d.k,.int .i64 d.s,.int .i64 d.p,.int .i64 d.out,.int .i8 d.za,.int .i8 d.zb,.slice W nw cw,.slice B nb cb,.int .i32 d.qm,.int .i64 d.qs,.int .i8 d.qz,.int .i32 d.rm,.int .i64 d.rs,.int .i8 d.rz,.int .i8 d.lo,.int .i8 d.hi]] w fun e w'=>e=.returned (.int .i8 (oneV d x))∧Below w.heap.size w w':=by
 have hz:=hd.za
 have HX:=hx
 rw [inK_i8] at hx hz
 obtain ⟨x1,x2⟩:=hx
 obtain ⟨z1,z2⟩:=hz
 have FR:=zH (Far.refl w)
 obtain ⟨w1,hw_w1,BN,k_w1⟩:=nB w #[.int .i64 d.kind,.int .i64 d.a,.int .i64 d.b,.int .i64 d.k,.int .i64 d.s,.int .i64 d.p,.int .i64 d.out,.int .i8 d.za,.int .i8 d.zb,.slice W nw cw,.slice B nb cb,.int .i32 d.qm,.int .i64 d.qs,.int .i8 d.qz,.int .i32 d.rm,.int .i64 d.rs,.int .i8 d.rz,.int .i8 d.lo,.int .i8 d.hi] 28
 replace FR:=zH (FR.out.fut k_w1)
 clear k_w1
 have HE:=zH (fun w=>rfixHeld_any (x - d.za) d.qm d.qs d.qz d.lo d.hi w (by rw [inK_i32];omega) hd.qm hd.qz hd.lo hd.hi)
 have d7:=BN.out.cell 7
 have d17:=BN.out.cell 17
 have d18:=BN.out.cell 18
 unfold oneV
 clear hd HX
 go_enter Tryz.func72,Tryz.ntmps72
 go_wp2_with (first|(refine wpList_load_blk rfl 26 (.tmp 11) rfl w.heap.size 11 rfl _ #[.int .i64 d.kind,.int .i64 d.a,.int .i64 d.b,.int .i64 d.k,.int .i64 d.s,.int .i64 d.p,.int .i64 d.out,.int .i8 d.za,.int .i8 d.zb,.slice W nw cw,.slice B nb cb,.int .i32 d.qm,.int .i64 d.qs,.int .i8 d.qz,.int .i32 d.rm,.int .i64 d.rs,.int .i8 d.rz,.int .i8 d.lo,.int .i8 d.hi] #[.int .i32 d.qm,.int .i64 d.qs,.int .i8 d.qz] _ BN.out Tryz.underlying26 rfl (by kernel_rfl) rfl ?_)|(go_at_call 110;refine (HE.out _).mono ?_;rintro e w2 ⟨rfl,hb⟩))
 go_ret
 exact ⟨rfl,(FR.out.fut hb).out⟩
theorem ractPut_any (a:Tensor) (A:Option Addr) (n cap:Nat) (d:Node) (W:Option Addr) (nw cw:Nat) (B:Option Addr) (nb cb:Nat) (w:World) (ht:TensorIn a) (hd:NodeIn d)
  (ha:Sl (tInt .i32) w (blo w.heap.size) A n cap a.data) (he:elems a.h a.v a.c=n) (hn:0 < n) (hn2:n≤1024) :
  Calls Tryz.prog 31 #[.agg #[.int .i64 a.h,.int .i64 a.v,.int .i64 a.c,.slice A n cap],.agg #[.int .i64 d.kind,.int .i64 d.a,.int .i64 d.b,.int .i64 d.k,.int .i64 d.s,.int .i64 d.p,.int .i64 d.out,.int .i8 d.za,.int .i8 d.zb,.slice W nw cw,.slice B nb cb,.int .i32 d.qm,.int .i64 d.qs,.int .i8 d.qz,.int .i32 d.rm,.int .i64 d.rs,.int .i8 d.rz,.int .i8 d.lo,.int .i8 d.hi]] w (RetT .i8 (putQ a d).1 (putQ a d).2 w):=by
 have EL:=zH (fun w=>relems_any a.h a.c a.v w ht.h ht.v ht.c)
 rw [he] at EL
 have QR:=zH (fun w=>rfixRight_any d.qm d.qs d.qz w)
 have HA:=zH ha
 have HD:=zH hd
 have FR:=zH (Far.refl w)
 obtain ⟨w1,hw_w1,BA,k_w1⟩:=nB w #[.int .i64 a.h,.int .i64 a.v,.int .i64 a.c,.slice A n cap] 41
 replace FR:=zH (FR.out.fut k_w1)
 clear k_w1
 obtain ⟨w2,hw_w2,BN,k_w2⟩:=nB w1 #[.int .i64 d.kind,.int .i64 d.a,.int .i64 d.b,.int .i64 d.k,.int .i64 d.s,.int .i64 d.p,.int .i64 d.out,.int .i8 d.za,.int .i8 d.zb,.slice W nw cw,.slice B nb cb,.int .i32 d.qm,.int .i64 d.qs,.int .i8 d.qz,.int .i32 d.rm,.int .i64 d.rs,.int .i8 d.rz,.int .i8 d.lo,.int .i8 d.hi] 28
 replace FR:=zH (FR.out.fut k_w2)
 replace BA:=zH (BA.out.fut k_w2)
 clear k_w2
 obtain ⟨w3,hw_w3,BR,k_w3⟩:=nB w2 #[.int .i64 0,.int .i64 0,.int .i64 0,.slice none 0 0] 32
 replace FR:=zH (FR.out.fut k_w3)
 replace BA:=zH (BA.out.fut k_w3)
 replace BN:=zH (BN.out.fut k_w3)
 clear k_w3
 have l1:w.heap.size < w1.heap.size:=by rw [← hw_w1];simp
 have l2:w1.heap.size < w2.heap.size:=by rw [← hw_w2];simp
 have n0:¬ n=0:=by omega
 have HQ:=zH (show putQ a d=if quantOk d.qm d.qs=true then (⟨a.h,a.v,a.c,allQ a.data d.qm d.qs d.qz d.lo d.hi⟩,0) else (noTensor,7) from rfl)
 obtain ⟨x,hx⟩:∃ x,putQ a d=x:=⟨_,rfl⟩
 rw [hx] at HQ ⊢
 obtain ⟨q,hq⟩:∃ q,quantOk d.qm d.qs=q:=⟨_,rfl⟩
 rw [hq] at QR HQ
 have QQ:=zH hq
 have c3:=BA.out.cell 3
 clear ht hd ha he hx hq hn
 cases q with
 | false =>
  rw [if_neg (by decide)] at HQ
  rw [HQ.out]
  go_enter Tryz.func31,Tryz.ntmps31
  go_wp2_with fail
  clear hw_w1 hw_w2 hw_w3 c3
  have x0:∀ q:Ext w3,q.1.cell? ⟨w.heap.size,0,none⟩=some (.int .i64 a.h):=fun q=>(BA.out.ext q).cell 0
  have x1:∀ q:Ext w3,q.1.cell? ⟨w.heap.size,1,none⟩=some (.int .i64 a.v):=fun q=>(BA.out.ext q).cell 1
  have x2:∀ q:Ext w3,q.1.cell? ⟨w.heap.size,2,none⟩=some (.int .i64 a.c):=fun q=>(BA.out.ext q).cell 2
  have x3:∀ q:Ext w3,q.1.cell? ⟨w.heap.size,3,none⟩=some (.slice A n cap):=fun q=>(BA.out.ext q).cell 3
  have E1:=zH (fun q:Ext w3=>calls_ext q (EL.out q.1))
  have tt1:decide ((n:Int)=0)=false:=by simp;omega
  have tt2:((n:Int) == 0)=false:=by simp;omega
  refine wp_region_ext w3 (by kernel_rfl) (by kernel_rfl) (Below.refl _ _) ?_
  repeat (go_big_quiet_step ((exact E1.out _)))
  refine wpQuiet_nil ?_
  rintro _ ⟨⟨wa,hb⟩,rfl⟩
  replace FR:=zH (FR.out.fut hb)
  replace BA:=zH (BA.out.fut hb)
  replace BN:=zH (BN.out.fut hb)
  replace BR:=zH (BR.out.fut hb)
  clear hb
  clear x0 x1 x2 x3 tt1 tt2 E1
  go_wp2_with (first|(refine wpList_load_blk rfl 26 (.tmp 20) rfl w1.heap.size 11 rfl _ #[.int .i64 d.kind,.int .i64 d.a,.int .i64 d.b,.int .i64 d.k,.int .i64 d.s,.int .i64 d.p,.int .i64 d.out,.int .i8 d.za,.int .i8 d.zb,.slice W nw cw,.slice B nb cb,.int .i32 d.qm,.int .i64 d.qs,.int .i8 d.qz,.int .i32 d.rm,.int .i64 d.rs,.int .i8 d.rz,.int .i8 d.lo,.int .i8 d.hi] #[.int .i32 d.qm,.int .i64 d.qs,.int .i8 d.qz] _ BN.out Tryz.underlying26 rfl (by kernel_rfl) rfl ?_)|(go_at_call 67;refine (QR.out _).mono ?_;rintro e wb ⟨rfl,hb⟩;replace FR:=zH (FR.out.fut hb);replace BA:=zH (BA.out.fut hb);replace BN:=zH (BN.out.fut hb);replace BR:=zH (BR.out.fut hb);clear hb)|(refine sB 32 (.tmp 4) (.tmp 24) w2.heap.size #[.int .i64 0,.int .i64 0,.int .i64 0,.slice none 0 0] BR.out ?_;intro w9 B9 g9))
  refine ret_cell_tmp rfl B9 rfl Tryz.underlying32 (by kernel_rfl) rfl ?_
  exact RetT.none (FR.out.away g9 (by omega)).out
 | true =>
  rw [if_pos rfl] at HQ
  rw [HQ.out]
  go_enter Tryz.func31,Tryz.ntmps31
  go_wp2_with fail
  clear hw_w1 hw_w2 hw_w3 c3
  have x0:∀ q:Ext w3,q.1.cell? ⟨w.heap.size,0,none⟩=some (.int .i64 a.h):=fun q=>(BA.out.ext q).cell 0
  have x1:∀ q:Ext w3,q.1.cell? ⟨w.heap.size,1,none⟩=some (.int .i64 a.v):=fun q=>(BA.out.ext q).cell 1
  have x2:∀ q:Ext w3,q.1.cell? ⟨w.heap.size,2,none⟩=some (.int .i64 a.c):=fun q=>(BA.out.ext q).cell 2
  have x3:∀ q:Ext w3,q.1.cell? ⟨w.heap.size,3,none⟩=some (.slice A n cap):=fun q=>(BA.out.ext q).cell 3
  have E1:=zH (fun q:Ext w3=>calls_ext q (EL.out q.1))
  have tt1:decide ((n:Int)=0)=false:=by simp;omega
  have tt2:((n:Int) == 0)=false:=by simp;omega
  refine wp_region_ext w3 (by kernel_rfl) (by kernel_rfl) (Below.refl _ _) ?_
  repeat (go_big_quiet_step ((exact E1.out _)))
  refine wpQuiet_nil ?_
  rintro _ ⟨⟨wa,hb⟩,rfl⟩
  replace FR:=zH (FR.out.fut hb)
  replace BA:=zH (BA.out.fut hb)
  replace BN:=zH (BN.out.fut hb)
  replace BR:=zH (BR.out.fut hb)
  clear hb
  clear x0 x1 x2 x3 tt1 tt2 E1
  go_wp2_with (first|(refine wpList_load_blk rfl 26 (.tmp 20) rfl w1.heap.size 11 rfl _ #[.int .i64 d.kind,.int .i64 d.a,.int .i64 d.b,.int .i64 d.k,.int .i64 d.s,.int .i64 d.p,.int .i64 d.out,.int .i8 d.za,.int .i8 d.zb,.slice W nw cw,.slice B nb cb,.int .i32 d.qm,.int .i64 d.qs,.int .i8 d.qz,.int .i32 d.rm,.int .i64 d.rs,.int .i8 d.rz,.int .i8 d.lo,.int .i8 d.hi] #[.int .i32 d.qm,.int .i64 d.qs,.int .i8 d.qz] _ BN.out Tryz.underlying26 rfl (by kernel_rfl) rfl ?_)|(go_at_call 67;refine (QR.out _).mono ?_;rintro e wb ⟨rfl,hb⟩;replace FR:=zH (FR.out.fut hb);replace BA:=zH (BA.out.fut hb);replace BN:=zH (BN.out.fut hb);replace BR:=zH (BR.out.fut hb);clear hb))
  have fd:Below w.heap.size w wb.drew:=FR.out.out.drew
  refine wp_region_T (fun w'=>w'.cell? ⟨w.heap.size,3,none⟩=some (.slice A n cap)∧w'.cell? ⟨w1.heap.size,17,none⟩=some (.int .i8 d.lo)∧w'.cell? ⟨w1.heap.size,18,none⟩=some (.int .i8 d.hi)∧Blk w' w.heap.size 41 #[.int .i64 a.h,.int .i64 a.v,.int .i64 a.c,.slice A n cap]∧Blk w' w1.heap.size 28 #[.int .i64 d.kind,.int .i64 d.a,.int .i64 d.b,.int .i64 d.k,.int .i64 d.s,.int .i64 d.p,.int .i64 d.out,.int .i8 d.za,.int .i8 d.zb,.slice W nw cw,.slice B nb cb,.int .i32 d.qm,.int .i64 d.qs,.int .i8 d.qz,.int .i32 d.rm,.int .i64 d.rs,.int .i8 d.rz,.int .i8 d.lo,.int .i8 d.hi]∧Below wb.drew.heap.size wb.drew w') 12 (by kernel_rfl) ?_ (fun hS=>?_)
  ·exact ⟨BA.out.drew.cell 3,BN.out.drew.cell 17,BN.out.drew.cell 18,BA.out.drew,BN.out.drew,Below.refl _ _⟩
  refine tkT 0 rfl (v:=?_) (Or.inl ⟨by rfl,?_⟩) hS ?_
  rotate_left
  ·intro w hSw;(try dsimp only at hSw);go_simp;try with_reducible rfl
  try simp only [pX]
  refine tkT 1 rfl (yieldsIf_load_blk (by rfl) 30 (.tmp 25) rfl w.heap.size 0 rfl _ #[.int .i64 a.h,.int .i64 a.v,.int .i64 a.c,.slice A n cap] #[.int .i64 a.h,.int .i64 a.v,.int .i64 a.c] _ (fun w hs=>hs.2.2.2.1) Tryz.underlying30 rfl (by kernel_rfl) rfl) hS ?_
  try simp only [pX]
  refine tkT 2 rfl (v:=?_) (Or.inl ⟨by rfl,?_⟩) hS ?_
  rotate_left
  ·intro w hSw;(try dsimp only at hSw);go_simp;try with_reducible rfl
  try simp only [pX]
  refine tkT 3 rfl (v:=?_) (Or.inl ⟨by rfl,?_⟩) hS ?_
  rotate_left
  ·intro w hSw;(try dsimp only at hSw);go_simp;try with_reducible rfl
  try simp only [pX]
  refine tkT 4 rfl (v:=?_) (Or.inl ⟨by rfl,?_⟩) hS ?_
  rotate_left
  ·intro w hSw;(try dsimp only at hSw);go_simp;try with_reducible rfl
  try simp only [pX]
  refine tkT 5 rfl (yieldsIf_load_blk (by rfl) 26 (.tmp 29) rfl w1.heap.size 11 rfl _ #[.int .i64 d.kind,.int .i64 d.a,.int .i64 d.b,.int .i64 d.k,.int .i64 d.s,.int .i64 d.p,.int .i64 d.out,.int .i8 d.za,.int .i8 d.zb,.slice W nw cw,.slice B nb cb,.int .i32 d.qm,.int .i64 d.qs,.int .i8 d.qz,.int .i32 d.rm,.int .i64 d.rs,.int .i8 d.rz,.int .i8 d.lo,.int .i8 d.hi] #[.int .i32 d.qm,.int .i64 d.qs,.int .i8 d.qz] _ (fun w hs=>hs.2.2.2.2.1) Tryz.underlying26 rfl (by kernel_rfl) rfl) hS ?_
  try simp only [pX]
  refine tkT 6 rfl (v:=?_) (Or.inl ⟨by rfl,?_⟩) hS ?_
  rotate_left
  ·intro w hSw;(try dsimp only at hSw);go_simp;try with_reducible rfl
  try simp only [pX]
  refine tkT 7 rfl (v:=?_) (Or.inl ⟨by rfl,?_⟩) hS ?_
  rotate_left
  ·intro w hSw;(try dsimp only at hSw);go_simp;try with_reducible rfl
  try simp only [pX]
  refine tkT 8 rfl (v:=?_) (Or.inl ⟨by rfl,?_⟩) hS ?_
  rotate_left
  ·intro w hSw;(try dsimp only at hSw);go_simp;try with_reducible rfl
  try simp only [pX]
  refine tkT 9 rfl (v:=?_) (Or.inl ⟨by rfl,?_⟩) hS ?_
  rotate_left
  ·intro w hSw;(try dsimp only at hSw);go_simp;try with_reducible rfl
  try simp only [pX]
  refine wpAnyT_one (i:=10) (by kernel_rfl) rfl rfl (fun K hK=>?_)
  go_simp
  refine (rfixAll_any A n cap a.data d.qm d.qs d.qz d.lo d.hi _ ((Old.now HA.out).fut fd).all (by omega) HD.out.qm HD.out.qz HD.out.lo HD.out.hi QQ.out).mono ?_;rintro e wm ⟨RA,rn,rc,rfl,rs,hb⟩
  refine hK.out _ _ ?_ (fun hS=>?_)
  ·exact ⟨(by first|exact cell_later hb hS.1|exact Blk.later hS.1 hb),(by first|exact cell_later hb hS.2.1|exact Blk.later hS.2.1 hb),(by first|exact cell_later hb hS.2.2.1|exact Blk.later hS.2.2.1 hb),(by first|exact cell_later hb hS.2.2.2.1|exact Blk.later hS.2.2.2.1 hb),(by first|exact cell_later hb hS.2.2.2.2.1|exact Blk.later hS.2.2.2.2.1 hb),(by first|exact below_later hb hS.2.2.2.2.2|exact grown_below hS.2.2.2.2.2 hb)⟩
  clear hK K
  try simp only [pX]
  refine tkT 11 rfl (v:=?_) (Or.inl ⟨by rfl,?_⟩) hS ?_
  rotate_left
  ·intro w hSw;(try dsimp only at hSw);go_simp;try with_reducible rfl
  try simp only [pX]
  refine wpAnyT_tail _ _ rfl rfl (by kernel_rfl) ?_
  have kd:=(show Below wb.heap.size wb wb.drew from (Below.refl _ _).drew).trans hb
  have RS:=zH (show New wb (tInt .i8) wm RA rn rc (allQ a.data d.qm d.qs d.qz d.lo d.hi) from ⟨rs⟩)
  have BR5:=zH (BR.out.fut kd)
  replace FR:=zH (FR.out.fut kd)
  have lbr:=BR.out.lt
  clear hS hb rs kd
  go_wp2_with (refine sB 32 (.tmp 4) (.tmp 36) w2.heap.size #[.int .i64 a.h,.int .i64 a.v,.int .i64 a.c,.slice RA rn rc] BR5.out ?_;intro w9 B9 g9)
  refine ret_cell_tmp rfl B9 rfl Tryz.underlying32 (by kernel_rfl) rfl ?_
  exact ⟨RA,rn,rc,rfl,(RS.out.away g9 lbr).out.more (bin_more (by omega) (Nat.le_refl _)),(FR.out.away g9 (by omega)).out⟩
end Go.Proofs.YtlbkekabmpienaaGreat
namespace Go.Proofs.YtlbkekabmpienaaGreat
set_option linter.unusedVariables false
set_option linter.unusedSimpArgs false
open Go.RowKit Go.ChangeShapes Go.WideShapes Fx
set_option maxRecDepth 100000
set_option maxHeartbeats 8000000
theorem ractOf_any (t:Tensor) (A:Option Addr) (n cap:Nat) (d:Node) (W:Option Addr) (nw cw:Nat) (B:Option Addr) (nb cb:Nat) (w:World) (ht:TensorIn t) (hd:NodeIn d)
  (ha:Sl (tInt .i8) w (blo w.heap.size) A n cap t.data) (c1:t.ok=true) :
  Calls Tryz.prog 28 #[.agg #[.int .i64 t.h,.int .i64 t.v,.int .i64 t.c,.slice A n cap],.agg #[.int .i64 d.kind,.int .i64 d.a,.int .i64 d.b,.int .i64 d.k,.int .i64 d.s,.int .i64 d.p,.int .i64 d.out,.int .i8 d.za,.int .i8 d.zb,.slice W nw cw,.slice B nb cb,.int .i32 d.qm,.int .i64 d.qs,.int .i8 d.qz,.int .i32 d.rm,.int .i64 d.rs,.int .i8 d.rz,.int .i8 d.lo,.int .i8 d.hi]] w (RetT .i8 (actQ t d).1 (actQ t d).2 w):=by
 have HA:=zH ha
 have HT:=zH ht
 have HD:=zH hd
 have C1:=zH c1
 obtain ⟨H,V,C,TK⟩:=tok_of c1
 have hn2:n≤1024:=by have:=TK.n_le;rw [ha.n_eq] at this;exact this
 have c1':decide (0 < elems t.h t.v t.c∧elems t.h t.v t.c=n)=true:=by rw [← HA.out.n_eq];simpa [Tensor.ok] using c1
 have RI:=zH (fun w=>rtensorRight_any t.h t.v t.c A n cap w ht.h ht.v ht.c (Nat.le_trans ha.cap_le ha.max_le))
 rw [c1'] at RI
 have mx:n≤9223372036854775807:=by omega
 have HQ:=zH (show actQ t d=if quantOk d.qm d.qs=true then (⟨t.h,t.v,t.c,(List.range n).map fun i=>oneV d (t.data.getD i 0)⟩,0) else (noTensor,7) by unfold actQ;rw [ha.n_eq])
 obtain ⟨x,hx⟩:∃ x,actQ t d=x:=⟨_,rfl⟩
 rw [hx] at HQ ⊢
 have FR:=zH (Far.refl w)
 obtain ⟨w1,hw_w1,BA,k_w1⟩:=nB w #[.int .i64 t.h,.int .i64 t.v,.int .i64 t.c,.slice A n cap] 32
 replace FR:=zH (FR.out.fut k_w1)
 clear k_w1
 obtain ⟨w2,hw_w2,BN,k_w2⟩:=nB w1 #[.int .i64 d.kind,.int .i64 d.a,.int .i64 d.b,.int .i64 d.k,.int .i64 d.s,.int .i64 d.p,.int .i64 d.out,.int .i8 d.za,.int .i8 d.zb,.slice W nw cw,.slice B nb cb,.int .i32 d.qm,.int .i64 d.qs,.int .i8 d.qz,.int .i32 d.rm,.int .i64 d.rs,.int .i8 d.rz,.int .i8 d.lo,.int .i8 d.hi] 28
 replace FR:=zH (FR.out.fut k_w2)
 replace BA:=zH (BA.out.fut k_w2)
 clear k_w2
 obtain ⟨w3,hw_w3,BR,k_w3⟩:=nB w2 #[.int .i64 0,.int .i64 0,.int .i64 0,.slice none 0 0] 32
 replace FR:=zH (FR.out.fut k_w3)
 replace BA:=zH (BA.out.fut k_w3)
 replace BN:=zH (BN.out.fut k_w3)
 clear k_w3
 have l1:w.heap.size < w1.heap.size:=by rw [← hw_w1];simp
 have l2:w1.heap.size < w2.heap.size:=by rw [← hw_w2];simp
 have l3:w2.heap.size < w3.heap.size:=by rw [← hw_w3];simp
 obtain ⟨qq,hq⟩:∃ q,quantOk d.qm d.qs=q:=⟨_,rfl⟩
 rw [hq] at HQ
 have QE:=zH hq
 have QR:=zH (fun w=>rfixRight_any d.qm d.qs d.qz w)
 rw [hq] at QR
 clear ht hd ha c1 c1' TK hx hq
 cases qq with
 | false =>
  rw [if_neg (by decide)] at HQ
  rw [HQ.out]
  go_enter Tryz.func28,Tryz.ntmps28
  go_wp2_with (first|(refine lB 32 (.tmp 2) w.heap.size BA.out Tryz.underlying32 ?_)|(go_at_call 15;refine (RI.out _).mono ?_;rintro e w4 ⟨rfl,hb⟩;have l4:=hb.size;replace FR:=zH (FR.out.fut hb);replace BA:=zH (BA.out.fut hb);replace BN:=zH (BN.out.fut hb);replace BR:=zH (BR.out.fut hb);clear hb hw_w1 hw_w2 hw_w3)|(refine wpList_load_blk rfl 26 (.tmp 12) rfl w1.heap.size 11 rfl _ #[.int .i64 d.kind,.int .i64 d.a,.int .i64 d.b,.int .i64 d.k,.int .i64 d.s,.int .i64 d.p,.int .i64 d.out,.int .i8 d.za,.int .i8 d.zb,.slice W nw cw,.slice B nb cb,.int .i32 d.qm,.int .i64 d.qs,.int .i8 d.qz,.int .i32 d.rm,.int .i64 d.rs,.int .i8 d.rz,.int .i8 d.lo,.int .i8 d.hi] #[.int .i32 d.qm,.int .i64 d.qs,.int .i8 d.qz] _ BN.out Tryz.underlying26 rfl (by kernel_rfl) rfl ?_)|(go_at_call 67;refine (QR.out _).mono ?_;rintro e w5 ⟨rfl,hb⟩;have l5:=hb.size;replace FR:=zH (FR.out.fut hb);replace BA:=zH (BA.out.fut hb);replace BN:=zH (BN.out.fut hb);replace BR:=zH (BR.out.fut hb);clear hb)|(refine sB 32 (.tmp 4) (.tmp 16) w2.heap.size #[.int .i64 0,.int .i64 0,.int .i64 0,.slice none 0 0] BR.out ?_;intro w9 B9 g9))
  refine ret_cell_tmp rfl B9 rfl Tryz.underlying32 (by kernel_rfl) rfl ?_
  exact RetT.none (FR.out.away g9 (by omega)).out
 | true =>
  rw [if_pos rfl] at HQ
  rw [HQ.out]
  have OV:=zH (fun x (h:InK .i8 x) w=>ractOne_any x d W nw cw B nb cb w h HD.out)
  go_enter Tryz.func28,Tryz.ntmps28
  go_wp2_with (first|(refine lB 32 (.tmp 2) w.heap.size BA.out Tryz.underlying32 ?_)|(go_at_call 15;refine (RI.out _).mono ?_;rintro e w4 ⟨rfl,hb⟩;have l4:=hb.size;replace FR:=zH (FR.out.fut hb);replace BA:=zH (BA.out.fut hb);replace BN:=zH (BN.out.fut hb);replace BR:=zH (BR.out.fut hb);clear hb hw_w1 hw_w2 hw_w3)|(refine wpList_load_blk rfl 26 (.tmp 12) rfl w1.heap.size 11 rfl _ #[.int .i64 d.kind,.int .i64 d.a,.int .i64 d.b,.int .i64 d.k,.int .i64 d.s,.int .i64 d.p,.int .i64 d.out,.int .i8 d.za,.int .i8 d.zb,.slice W nw cw,.slice B nb cb,.int .i32 d.qm,.int .i64 d.qs,.int .i8 d.qz,.int .i32 d.rm,.int .i64 d.rs,.int .i8 d.rz,.int .i8 d.lo,.int .i8 d.hi] #[.int .i32 d.qm,.int .i64 d.qs,.int .i8 d.qz] _ BN.out Tryz.underlying26 rfl (by kernel_rfl) rfl ?_)|(go_at_call 67;refine (QR.out _).mono ?_;rintro e w5 ⟨rfl,hb⟩;have l5:=hb.size;replace FR:=zH (FR.out.fut hb);replace BA:=zH (BA.out.fut hb);replace BN:=zH (BN.out.fut hb);replace BR:=zH (BR.out.fut hb);clear hb;obtain ⟨w6,hw_w6⟩:∃ x,w5.alloc (.cells #[.int .i64 0,.int .i64 0,.int .i64 0,.slice none 0 0] 32)=x:=⟨_,rfl⟩;have hb:Below w5.heap.size w5 w6:=(by rw [← hw_w6];exact (Below.refl _ _).alloc (Nat.le_refl _) _);have BG:=zH (show Blk w6 w5.heap.size 32 #[.int .i64 0,.int .i64 0,.int .i64 0,.slice none 0 0] by rw [← hw_w6];exact Blk.now _ _ _ _ rfl);have BA5:=zH BA.out;replace FR:=zH (FR.out.fut hb);replace BA:=zH (BA.out.fut hb);replace BN:=zH (BN.out.fut hb);replace BR:=zH (BR.out.fut hb);clear hb)|(refine wpList_load_blk rfl 30 (.tmp 17) rfl w.heap.size 0 rfl _ #[.int .i64 t.h,.int .i64 t.v,.int .i64 t.c,.slice A n cap] #[.int .i64 t.h,.int .i64 t.v,.int .i64 t.c] _ BA5.out Tryz.underlying30 rfl (by kernel_rfl) rfl ?_)|(refine sB 32 (.tmp 6) (.tmp 19) w5.heap.size #[.int .i64 t.h,.int .i64 t.v,.int .i64 t.c,.slice none 0 0] BG.out ?_;intro w7 B7 g7))
  have l6:w6.heap.size=w5.heap.size+1:=by rw [← hw_w6];simp
  clear hw_w6 BA5 BG
  replace FR:=zH (FR.out.away g7 (by omega))
  replace BA:=zH (BA.out.away g7 (.inl (by omega)))
  replace BN:=zH (BN.out.away g7 (.inl (by omega)))
  replace BR:=zH (BR.out.away g7 (.inl (by omega)))
  have BG:=zH B7
  clear B7 g7
  have ON:=zH (show Own (tInt .i8) w7 (fun _=>False) w6.heap.size 22 (.slice none 0 0) 0 ((List.range 0).map (fun i=>oneV d (t.data.getD i 0))) from Own.nil _ _ _ _ _)
  go_loopw [7] (fun ii wr=>∃ k:Nat,k≤n∧ii=.int .i64 k∧Far w wr∧Blk wr w.heap.size 32 #[.int .i64 t.h,.int .i64 t.v,.int .i64 t.c,.slice A n cap]∧Blk wr w1.heap.size 28 #[.int .i64 d.kind,.int .i64 d.a,.int .i64 d.b,.int .i64 d.k,.int .i64 d.s,.int .i64 d.p,.int .i64 d.out,.int .i8 d.za,.int .i8 d.zb,.slice W nw cw,.slice B nb cb,.int .i32 d.qm,.int .i64 d.qs,.int .i8 d.qz,.int .i32 d.rm,.int .i64 d.rs,.int .i8 d.rz,.int .i8 d.lo,.int .i8 d.hi]∧Blk wr w2.heap.size 32 #[.int .i64 0,.int .i64 0,.int .i64 0,.slice none 0 0]∧∃ u,Blk wr w5.heap.size 32 #[.int .i64 t.h,.int .i64 t.v,.int .i64 t.c,u]∧Own (tInt .i8) wr (fun _=>False) w6.heap.size 22 u k ((List.range k).map (fun i=>oneV d (t.data.getD i 0)))) (fun ii _=>n - (intOf ii).toNat)
  case atStart=>exact ⟨0,Nat.zero_le _,rfl,FR.out,BA.out,BN.out,BR.out,_,BG.out,ON.out⟩
  case round =>
   obtain ⟨k,hk,rfl,f0,f1,f2,f3,u,f4,f5⟩:=hrel
   clear FR BA BN BR BG ON
   have FR:=zH f0
   have BA:=zH f1
   have BN:=zH f2
   have BR:=zH f3
   have BG:=zH f4
   have ON:=zH f5
   clear f0 f1 f2 f3 f4 f5
   have a3:=BA.out.cell 3
   by_cases hlt:k < n
   ·have p1:(k:Int) < (n:Int):=by omega
    go_wp2_with fail
    clear a3
    obtain ⟨b,o,rfl,-,-,cx,ix⟩:=((Old.now HA.out).fut FR.out.out).all.int_at k hlt
    have hb9:b < w.heap.size:=by
     obtain ⟨b',o',e',q1,q2,-,-⟩:=HA.out.int_at k hlt
     simp only [Option.some.injEq,Addr.mk.injEq,and_true] at e'
     rw [e'.1]
     exact q1
    have FS:=zH (range_snoc (fun i=>oneV d (t.data.getD i 0)) k)
    obtain ⟨x,hx⟩:∃ x,t.data.getD k 0=x:=⟨_,rfl⟩
    rw [hx] at cx ix
    have FE:=zH (show oneV d (t.data.getD k 0)=oneV d x by rw [hx])
    have CX:=zH (OV.out x ix)
    obtain ⟨v,hv⟩:∃ v,oneV d x=v:=⟨_,rfl⟩
    have RE:=zH (show InK .i8 v by rw [← hv];exact oneV_in d x)
    rw [hv] at FE CX
    have OD:=zH (ON.out.heap (w':=wr.drew) rfl)
    have fd:Below w.heap.size w wr.drew:=FR.out.out.drew
    have bd:=BG.out.lt
    have cd:=cell_later ((show Below wr.heap.size wr wr.drew from (Below.refl _ _).drew)) cx
    have nu:=zH (show ∀ b,b < w6.heap.size → some b ≠ u.ownBlock from fun b hb e=>absurd (ON.out.lt b e.symm).1 (by omega))
    clear hx hv cx
    refine wp_region_T (fun w'=>w'.cell? ⟨w5.heap.size,3,none⟩=some u∧w'.cell? ⟨w.heap.size,3,none⟩=some (.slice (some ⟨b,o,none⟩) n cap)∧w'.cell? ⟨b,o+k,none⟩=some (.int .i8 x)∧Blk w' w1.heap.size 28 #[.int .i64 d.kind,.int .i64 d.a,.int .i64 d.b,.int .i64 d.k,.int .i64 d.s,.int .i64 d.p,.int .i64 d.out,.int .i8 d.za,.int .i8 d.zb,.slice W nw cw,.slice B nb cb,.int .i32 d.qm,.int .i64 d.qs,.int .i8 d.qz,.int .i32 d.rm,.int .i64 d.rs,.int .i8 d.rz,.int .i8 d.lo,.int .i8 d.hi]∧Below w.heap.size w w') 11 (by kernel_rfl) ?_ (fun hS=>?_)
    ·exact ⟨BG.out.drew.cell 3,BA.out.drew.cell 3,cd,BN.out.drew,fd⟩
    refine tkT 0 rfl (v:=?_) (Or.inl ⟨by rfl,?_⟩) hS ?_
    rotate_left
    ·intro w hSw;(try dsimp only at hSw);go_simp;try with_reducible rfl
    try simp only [pX]
    refine tkT 1 rfl (v:=?_) (Or.inl ⟨by rfl,?_⟩) hS ?_
    rotate_left
    ·intro w hSw;(try dsimp only at hSw);go_simp;try with_reducible rfl
    try simp only [pX]
    refine tkT 2 rfl (v:=?_) (Or.inl ⟨by rfl,?_⟩) hS ?_
    rotate_left
    ·intro w hSw;(try dsimp only at hSw);go_simp;try with_reducible rfl
    try simp only [pX]
    refine tkT 3 rfl (v:=?_) (Or.inl ⟨by rfl,?_⟩) hS ?_
    rotate_left
    ·intro w hSw;(try dsimp only at hSw);go_simp;try with_reducible rfl
    try simp only [pX]
    refine tkT 4 rfl (v:=?_) (Or.inl ⟨by rfl,?_⟩) hS ?_
    rotate_left
    ·intro w hSw;(try dsimp only at hSw);go_simp;try with_reducible rfl
    try simp only [pX]
    refine tkT 5 rfl (v:=?_) (Or.inl ⟨by rfl,?_⟩) hS ?_
    rotate_left
    ·intro w hSw;(try dsimp only at hSw);go_simp;try with_reducible rfl
    try simp only [pX]
    refine tkT 6 rfl (v:=?_) (Or.inl ⟨by rfl,?_⟩) hS ?_
    rotate_left
    ·intro w hSw;(try dsimp only at hSw);go_simp;try with_reducible rfl
    try simp only [pX]
    refine tkT 7 rfl (yieldsIf_load_blk (by rfl) 28 (.tmp 3) rfl w1.heap.size 0 rfl _ _ #[.int .i64 d.kind,.int .i64 d.a,.int .i64 d.b,.int .i64 d.k,.int .i64 d.s,.int .i64 d.p,.int .i64 d.out,.int .i8 d.za,.int .i8 d.zb,.slice W nw cw,.slice B nb cb,.int .i32 d.qm,.int .i64 d.qs,.int .i8 d.qz,.int .i32 d.rm,.int .i64 d.rs,.int .i8 d.rz,.int .i8 d.lo,.int .i8 d.hi] _ (fun w hs=>hs.2.2.2.1) Tryz.underlying28 rfl (by kernel_rfl) rfl) hS ?_
    try simp only [pX]
    refine wpAnyT_one (i:=8) (by kernel_rfl) rfl rfl (fun K hK=>?_)
    go_simp
    refine (CX.out _).mono ?_;rintro e wa ⟨rfl,hb⟩;have OA:=zH (OD.out.below hb (Nat.le_refl _) (fun _ h=>h.elim));have za:w6.heap.size≤wa.heap.size:=(by have:=hb.size;have:wr.drew.heap.size=wr.heap.size:=rfl;omega);have XX:=zH (And.intro (cell_later hb cd) (And.intro (BA.out.drew.later hb) (below_call fd hb fd.size)));have YY:=zH (And.intro (BN.out.drew.later hb) (And.intro (BR.out.drew.later hb) (BG.out.drew.later hb)))
    refine hK.out _ _ ?_ (fun hS=>?_)
    ·exact ⟨(by first|exact cell_later hb hS.1|exact Blk.later hS.1 hb),(by first|exact cell_later hb hS.2.1|exact Blk.later hS.2.1 hb),(by first|exact cell_later hb hS.2.2.1|exact Blk.later hS.2.2.1 hb),(by first|exact cell_later hb hS.2.2.2.1|exact Blk.later hS.2.2.2.1 hb),(by first|exact below_later hb hS.2.2.2.2|exact grown_below hS.2.2.2.2 hb)⟩
    clear hK K
    try simp only [pX]
    refine wpAnyT_one (i:=9) (by kernel_rfl) rfl rfl (fun K hK=>?_)
    go_simp
    have hb:Below wa.heap.size wa (wa.alloc (.cells #[.int .i8 v] 22)):=(Below.refl _ _).alloc (Nat.le_refl _) _
    refine hK.out _ _ ?_ (fun hS=>?_)
    ·exact ⟨(by first|exact cell_later hb hS.1|exact Blk.later hS.1 hb),(by first|exact cell_later hb hS.2.1|exact Blk.later hS.2.1 hb),(by first|exact cell_later hb hS.2.2.1|exact Blk.later hS.2.2.1 hb),(by first|exact cell_later hb hS.2.2.2.1|exact Blk.later hS.2.2.2.1 hb),(by first|exact below_later hb hS.2.2.2.2|exact grown_below hS.2.2.2.2 hb)⟩
    clear hK K
    try simp only [pX]
    refine wpAnyT_one (i:=10) (by kernel_rfl) rfl rfl (fun K hK=>?_)
    (rw [if_pos (by rfl)];refine oper_push (W:=wa) (cs:=#[.int .i8 v]) (E:=22) (t:=tInt .i8) (.tmp 28) (.tmp 36) rfl ei_b8 rfl OA.out 1 rfl v ⟨rfl,RE.out⟩ (by unfold maxLen;omega) (by omega) za (fun _ h=>h.elim) ?_;intro u' w7 own7 g7 at7;have B7:=zH (YY.out.2.2.rowR g7 (nu.out _ (by omega)));have T7:=zH (XX.out.2.1.rowR g7 (nu.out _ (by omega)));refine hK.out _ _ ⟨B7.out.cell 3,T7.out.cell 3,cell_grown g7 XX.out.1 (nu.out b (by omega)),YY.out.1.rowR g7 (nu.out _ (by omega)),XX.out.2.2.grown g7 XX.out.2.2.size (fun j hj=>Nat.le_trans (by omega) (OA.out.lt j hj).1)⟩ (fun hS=>?_))
    clear hK K
    try simp only [pX]
    refine wpAnyT_tail _ _ rfl rfl (by kernel_rfl) ?_
    have FZ:=hS.2.2.2.2
    have XB:=zH hS.2.2.2.1
    have XR:=zH (YY.out.2.1.rowR g7 (nu.out _ (by omega)))
    have NU:=zH (show u'.ownBlock=none ∨ u'.ownBlock ≠ some w5.heap.size by
     cases hu:u'.ownBlock with
     | none=>exact .inl rfl
     | some m=>right;intro e;have:=(own7.lt m hu).1;have:=Option.some.inj e;omega)
    obtain ⟨A7,c7,rfl,-⟩:=own7.sl (S':=fun _=>True) (by decide) (fun _ _ _=>trivial) (fun _ _=>trivial)
    clear hS hb nu at7
    go_wp2_with (refine wpList_store_one rfl 23 (.tmp 38) (.tmp 37) rfl w5.heap.size 3 (.slice A7 (k+1) c7) rfl rfl rfl rfl _ #[.int .i64 t.h,.int .i64 t.v,.int .i64 t.c,u] #[.int .i64 t.h,.int .i64 t.v,.int .i64 t.c,.slice A7 (k+1) c7] B7.out (by simp) (by kernel_rfl) rfl ?_;intro w8 B8 g8)
    have F8:=(show Far w w7 from ⟨FZ⟩).away g8 (by omega)
    have O8:=own7.flat g8 (by rcases NU.out with e|e;exact .inl e;exact .inr e) (fun _ h=>h)
    have fs:=FS.out
    rw [FE.out] at fs
    rw [fs] at O8
    exact ⟨⟨k+1,by omega,by go_num,F8,T7.out.away g8 (.inl (by omega)),XB.out.away g8 (.inl (by omega)),XR.out.away g8 (.inl (by omega)),_,B8,O8⟩,by simp [intOf];omega⟩
   ·obtain rfl:k=n:=by omega
    obtain ⟨A9,c9,rfl,-⟩:=ON.out.sl (S':=fun _=>True) (by decide) (fun _ _ _=>trivial) (fun _ _=>trivial)
    go_wp2_with (first|(refine lB 32 (.tmp 6) w5.heap.size BG.out Tryz.underlying32 ?_)|(refine sB 32 (.tmp 4) (.tmp 39) w2.heap.size #[.int .i64 t.h,.int .i64 t.v,.int .i64 t.c,.slice A9 k c9] BR.out ?_;intro w9 B9 g9))
    have e2:=ON.out.flat g9 (by
     cases hu:(Value.slice A9 k c9).ownBlock with
     | none=>exact .inl rfl
     | some m=>right;intro e;have:=(ON.out.lt m hu).1;have:=Option.some.inj e;omega) (fun _ h=>h)
    refine ret_cell_tmp rfl B9 rfl Tryz.underlying32 (by kernel_rfl) rfl ?_
    have FE:=FR.out.away g9 (by omega)
    obtain ⟨A2,c2,hv,s⟩:=e2.sl (S':=bin w.heap.size _) (by decide) (fun b h1 h2=>⟨by omega,h2⟩) (fun b h=>h.elim)
    injection hv with hv1 hv2 hv3
    subst hv1 hv3
    exact ⟨_,_,_,rfl,s,FE.out⟩
end Go.Proofs.YtlbkekabmpienaaGreat
namespace Go.Proofs.YtlbkekabmpienaaGreat
set_option linter.unusedVariables false
set_option linter.unusedSimpArgs false
open Go.RowKit Go.ChangeShapes Go.WideShapes Fx
set_option maxRecDepth 100000
set_option maxHeartbeats 4000000
theorem rjoinOne_any (x y:Int) (d:Node) (W:Option Addr) (nw cw:Nat) (B:Option Addr) (nb cb:Nat) (w:World) (hx:InK .i8 x) (hy:InK .i8 y) (hd:NodeIn d) (hm:mayV d=true) :
  Calls Tryz.prog 71 #[.int .i8 x,.int .i8 y,.agg #[.int .i64 d.kind,.int .i64 d.a,.int .i64 d.b,.int .i64 d.k,.int .i64 d.s,.int .i64 d.p,.int .i64 d.out,.int .i8 d.za,.int .i8 d.zb,.slice W nw cw,.slice B nb cb,.int .i32 d.qm,.int .i64 d.qs,.int .i8 d.qz,.int .i32 d.rm,.int .i64 d.rs,.int .i8 d.rz,.int .i8 d.lo,.int .i8 d.hi]] w fun e w'=>e=.returned (.int .i8 (joinV d x y))∧Below w.heap.size w w':=by
 have p1:=prod8 hx hd.za hd.qm
 have p2:=prod8 hy hd.zb hd.rm
 have b1:=roundV_le _ d.qs _ p1
 have b2:=roundV_le _ d.rs _ p2
 have Q1:=zH (fun w=>rfixRight_any d.qm d.qs d.qz w)
 have Q2:=zH (fun w=>rfixRight_any d.rm d.rs d.rz w)
 unfold mayV at hm
 simp only [Bool.and_eq_true] at hm
 rw [hm.1] at Q1
 rw [hm.2] at Q2
 unfold joinV
 obtain ⟨m1,k1⟩:∃ r,(x - d.za)*d.qm=r:=⟨_,rfl⟩
 obtain ⟨m2,k2⟩:∃ r,(y - d.zb)*d.rm=r:=⟨_,rfl⟩
 rw [k1] at b1 p1 ⊢
 rw [k2] at b2 p2 ⊢
 have R1:=zH (fun w=>rround_any m1 d.qs w (by rw [inK_i64];omega))
 have R2:=zH (fun w=>rround_any m2 d.rs w (by rw [inK_i64];omega))
 obtain ⟨r1,h1⟩:∃ r,roundV m1 d.qs=r:=⟨_,rfl⟩
 obtain ⟨r2,h2⟩:∃ r,roundV m2 d.rs=r:=⟨_,rfl⟩
 rw [h1] at R1 b1 ⊢
 rw [h2] at R2 b2 ⊢
 have hz:=hd.qz
 have hza:=hd.za
 have hzb:=hd.zb
 have hlo:=hd.lo
 have hhi:=hd.hi
 have hqm:=hd.qm
 have hrm:=hd.rm
 rw [inK_i8] at hz hza hzb hlo hhi hx hy
 rw [inK_i32] at hqm hrm
 obtain ⟨z1,z2⟩:=hz
 obtain ⟨z3,z4⟩:=hza
 obtain ⟨z5,z6⟩:=hzb
 obtain ⟨z7,z8⟩:=hlo
 obtain ⟨z9,z10⟩:=hhi
 obtain ⟨y1,y2⟩:=hx
 obtain ⟨y3,y4⟩:=hy
 obtain ⟨y5,y6⟩:=hqm
 obtain ⟨y7,y8⟩:=hrm
 have p3:-547608330240≤m1∧m1≤547608330240:=by omega
 have p4:-547608330240≤m2∧m2≤547608330240:=by omega
 have p5:-547608330240≤r1∧r1≤547608330240:=by omega
 have p6:-547608330240≤r2∧r2≤547608330240:=by omega
 obtain ⟨p3,p3'⟩:=p3
 obtain ⟨p4,p4'⟩:=p4
 obtain ⟨p5,p5'⟩:=p5
 obtain ⟨p6,p6'⟩:=p6
 clear p1 p2 b1 b2 h1 h2 hm hd
 have CL:=zH (fun w=>rheld_any (r1+r2+d.qz) d.lo d.hi w)
 have FR:=zH (Far.refl w)
 obtain ⟨w1,hw_w1,BN,k_w1⟩:=nB w #[.int .i64 d.kind,.int .i64 d.a,.int .i64 d.b,.int .i64 d.k,.int .i64 d.s,.int .i64 d.p,.int .i64 d.out,.int .i8 d.za,.int .i8 d.zb,.slice W nw cw,.slice B nb cb,.int .i32 d.qm,.int .i64 d.qs,.int .i8 d.qz,.int .i32 d.rm,.int .i64 d.rs,.int .i8 d.rz,.int .i8 d.lo,.int .i8 d.hi] 28
 replace FR:=zH (FR.out.fut k_w1)
 clear k_w1
 go_enter Tryz.func71,Tryz.ntmps71
 go_wp2_with (first|(refine wpList_load_blk rfl 26 (.tmp 9) rfl w.heap.size 11 rfl _ #[.int .i64 d.kind,.int .i64 d.a,.int .i64 d.b,.int .i64 d.k,.int .i64 d.s,.int .i64 d.p,.int .i64 d.out,.int .i8 d.za,.int .i8 d.zb,.slice W nw cw,.slice B nb cb,.int .i32 d.qm,.int .i64 d.qs,.int .i8 d.qz,.int .i32 d.rm,.int .i64 d.rs,.int .i8 d.rz,.int .i8 d.lo,.int .i8 d.hi] #[.int .i32 d.qm,.int .i64 d.qs,.int .i8 d.qz] _ BN.out Tryz.underlying26 rfl (by kernel_rfl) rfl ?_)|(refine wpList_load_blk rfl 26 (.tmp 14) rfl w.heap.size 14 rfl _ #[.int .i64 d.kind,.int .i64 d.a,.int .i64 d.b,.int .i64 d.k,.int .i64 d.s,.int .i64 d.p,.int .i64 d.out,.int .i8 d.za,.int .i8 d.zb,.slice W nw cw,.slice B nb cb,.int .i32 d.qm,.int .i64 d.qs,.int .i8 d.qz,.int .i32 d.rm,.int .i64 d.rs,.int .i8 d.rz,.int .i8 d.lo,.int .i8 d.hi] #[.int .i32 d.rm,.int .i64 d.rs,.int .i8 d.rz] _ BN.out Tryz.underlying26 rfl (by kernel_rfl) rfl ?_)|(go_at_call 67;first|(with_reducible refine (Q1.out _).mono ?_;rintro e w2 ⟨rfl,hb⟩;replace FR:=zH (FR.out.fut hb);replace BN:=zH (BN.out.fut hb);clear hb;have c14:=BN.out.cell 14;have c15:=BN.out.cell 15;have c16:=BN.out.cell 16;simp only [gX] at c14 c15 c16)|(with_reducible refine (Q2.out _).mono ?_;rintro e w3 ⟨rfl,hb⟩;replace FR:=zH (FR.out.fut hb);replace BN:=zH (BN.out.fut hb);clear hb c14 c15 c16 hw_w1;have c7:=BN.out.cell 7;have c11:=BN.out.cell 11;have c12:=BN.out.cell 12)))
 go_wp2_with (go_at_call 108;with_reducible refine (R1.out _).mono ?_;rintro e w4 ⟨rfl,hb⟩;replace FR:=zH (FR.out.fut hb);replace BN:=zH (BN.out.fut hb);clear hb c7 c11 c12;have c8:=BN.out.cell 8;have c14:=BN.out.cell 14;have c15:=BN.out.cell 15)
 go_wp2_with (go_at_call 108;with_reducible refine (R2.out _).mono ?_;rintro e w5 ⟨rfl,hb⟩;replace FR:=zH (FR.out.fut hb);replace BN:=zH (BN.out.fut hb);clear hb c8 c14 c15;have c13:=BN.out.cell 13;have c17:=BN.out.cell 17;have c18:=BN.out.cell 18)
 go_wp2_with (go_at_call 109;refine (CL.out _).mono ?_;rintro e w6 ⟨rfl,rfl⟩)
 go_ret
 exact ⟨rfl,FR.out.out⟩
end Go.Proofs.YtlbkekabmpienaaGreat
