/-
  The middle of numbers (layer 19): pool.Near, pool.mean, the document's Near, Mean; a tensor laid flat (layer 5).
  The middle of numbers (layer 19): pool.mean, the document's Mean; a tensor laid flat (layer 5: tensor.Flat).
  The shape that a node makes (layers 18, 25): the document's dense.Shape.
-/
import Derived.Test.YtjkmjpjknmghlaaGreatJ31
import Derived.Test.YtjkmjpjknmghlaaGreatJ26
set_option linter.unusedVariables false
set_option linter.unusedSimpArgs false
namespace Go.Proofs.YtjkmjpjknmghlaaGreat
open Go.RowKit Go.ChangeShapes Go.WideShapes Fx
set_option maxRecDepth 100000
set_option maxHeartbeats 4000000
def nearN (k m:Nat):Nat:=k / m+if m - k % m≤k % m then 1 else 0
def nearV (s:Int) (m:Nat):Int:=if m=0 then 0 else if s < 0 then -(nearN s.natAbs m:Int) else (nearN s.natAbs m:Int)
theorem poolNear_any (s:Int) (m:Nat) (w:World) (h1:m≤1024) (h2:-131072≤s) (h3:s≤131072) :
  Calls Tryz.prog 112 #[.int .i64 s,.int .i64 m] w fun e w'=>e=.returned (.int .i64 (nearV s m))∧Below w.heap.size w w':=by
 unfold nearV
 by_cases m0:m=0
 ·rw [if_pos m0]
  subst m0
  go_enter Tryz.func112,Tryz.ntmps112
  go_wp2_with fail
  go_ret
  exact ⟨rfl,Below.refl _ _⟩
 rw [if_neg m0]
 have mp:¬ (m:Int) < 1:=by omega
 have mz:¬ (m:Int)=0:=by omega
 obtain ⟨res,hres⟩:∃ r:Int,(if s < 0 then -(nearN s.natAbs m:Int) else (nearN s.natAbs m:Int))=r:=⟨_,rfl⟩
 rw [hres]
 unfold nearN at hres
 by_cases b1:s < 0
 ·rw [if_pos b1] at hres
  obtain ⟨k,rfl⟩:∃ k:Nat,s=-(k:Int):=⟨s.natAbs,by omega⟩
  rw [show (-(k:Int)).natAbs=k by omega] at hres
  obtain ⟨a,ha⟩:∃ a,k / m=a:=⟨_,rfl⟩
  obtain ⟨b,hb⟩:∃ b,k % m=b:=⟨_,rfl⟩
  have ha2:a≤k:=by rw [← ha];exact Nat.div_le_self _ _
  have hb2:b < m:=by rw [← hb];exact Nat.mod_lt _ (by omega)
  have d1:(-(k:Int)).tdiv (m:Int)=-(a:Int):=by rw [Int.neg_tdiv,Int.tdiv_eq_ediv_of_nonneg (by omega),← ha];simp
  have d2:(-(k:Int)).tmod (m:Int)=-(b:Int):=by rw [Int.neg_tmod,Int.tmod_eq_emod_of_nonneg (by omega),← hb];simp
  have d3:(k:Int).tdiv (m:Int)=(a:Int):=by rw [Int.tdiv_eq_ediv_of_nonneg (by omega),← ha];simp
  have d4:(k:Int).tmod (m:Int)=(b:Int):=by rw [Int.tmod_eq_emod_of_nonneg (by omega),← hb];simp
  have d5:(k:Int) / (m:Int)=(a:Int):=by rw [← ha];simp
  have d6:(k:Int) % (m:Int)=(b:Int):=by rw [← hb];simp
  have e1:IntKind.i64.wrap (-(a:Int))=-(a:Int):=IntWalk.i64_in _ (by omega)
  have e2:IntKind.i64.wrap (-(b:Int))=-(b:Int):=IntWalk.i64_in _ (by omega)
  have e3:IntKind.i64.wrap (a:Int)=(a:Int):=IntWalk.i64_in _ (by omega)
  have e4:IntKind.i64.wrap (b:Int)=(b:Int):=IntWalk.i64_in _ (by omega)
  have e5:IntKind.i64.wrap ((m:Int) - (b:Int))=(m:Int) - (b:Int):=IntWalk.i64_in _ (by omega)
  rw [ha,hb] at hres
  clear ha hb
  by_cases c1:m - b≤b
  ·rw [if_pos c1] at hres
   subst hres
   have t1:(m:Int)+-(b:Int)≤(b:Int):=by omega
   have t2:(m:Int) - (b:Int)≤(b:Int):=by omega
   have t3:¬ (0:Int) < -(b:Int):=by omega
   have t4:-(b:Int) < 0:=by omega
   have t5:0 < b:=by omega
   go_enter Tryz.func112,Tryz.ntmps112
   go_wp2_with fail
   go_quiet (fail)
   go_wp2_with fail
   go_ret
   exact ⟨by show Ending.returned (.int .i64 _)=_;go_num,below_drewN (Below.refl _ _) _⟩
  ·rw [if_neg c1,Nat.add_zero] at hres
   subst hres
   by_cases c2:b=0
   ·subst c2
    have t1:¬ (m:Int)≤0:=by omega
    have t2:¬ m≤0:=by omega
    simp only [Int.natCast_zero,Int.neg_zero,Int.sub_zero,Int.ofNat_zero] at d2 d4 d6 e2 e4 e5
    go_enter Tryz.func112,Tryz.ntmps112
    go_wp2_with fail
    go_quiet (fail)
    go_wp2_with fail
    go_ret
    exact ⟨rfl,below_drewN (Below.refl _ _) _⟩
   ·have t1:¬ (m:Int)+-(b:Int)≤(b:Int):=by omega
    have t2:¬ (m:Int) - (b:Int)≤(b:Int):=by omega
    have t3:¬ (0:Int) < -(b:Int):=by omega
    have t4:-(b:Int) < 0:=by omega
    have t5:0 < b:=by omega
    go_enter Tryz.func112,Tryz.ntmps112
    go_wp2_with fail
    go_quiet (fail)
    go_wp2_with fail
    go_ret
    exact ⟨rfl,below_drewN (Below.refl _ _) _⟩
 ·rw [if_neg b1] at hres
  obtain ⟨k,rfl⟩:∃ k:Nat,s=(k:Int):=⟨s.natAbs,by omega⟩
  rw [show ((k:Int)).natAbs=k by omega] at hres
  obtain ⟨a,ha⟩:∃ a,k / m=a:=⟨_,rfl⟩
  obtain ⟨b,hb⟩:∃ b,k % m=b:=⟨_,rfl⟩
  have ha2:a≤k:=by rw [← ha];exact Nat.div_le_self _ _
  have hb2:b < m:=by rw [← hb];exact Nat.mod_lt _ (by omega)
  have d3:(k:Int).tdiv (m:Int)=(a:Int):=by rw [Int.tdiv_eq_ediv_of_nonneg (by omega),← ha];simp
  have d4:(k:Int).tmod (m:Int)=(b:Int):=by rw [Int.tmod_eq_emod_of_nonneg (by omega),← hb];simp
  have d5:(k:Int) / (m:Int)=(a:Int):=by rw [← ha];simp
  have d6:(k:Int) % (m:Int)=(b:Int):=by rw [← hb];simp
  have e3:IntKind.i64.wrap (a:Int)=(a:Int):=IntWalk.i64_in _ (by omega)
  have e4:IntKind.i64.wrap (b:Int)=(b:Int):=IntWalk.i64_in _ (by omega)
  have e5:IntKind.i64.wrap ((m:Int) - (b:Int))=(m:Int) - (b:Int):=IntWalk.i64_in _ (by omega)
  rw [ha,hb] at hres
  clear ha hb
  by_cases c1:m - b≤b
  ·rw [if_pos c1] at hres
   subst hres
   have t2:(m:Int) - (b:Int)≤(b:Int):=by omega
   have t5:0 < b:=by omega
   go_enter Tryz.func112,Tryz.ntmps112
   go_wp2_with fail
   go_quiet (fail)
   go_wp2_with fail
   go_ret
   exact ⟨by show Ending.returned (.int .i64 _)=_;go_num,below_drewN (Below.refl _ _) _⟩
  ·rw [if_neg c1,Nat.add_zero] at hres
   subst hres
   by_cases c2:b=0
   ·subst c2
    have t1:¬ (m:Int)≤0:=by omega
    have t2:¬ m≤0:=by omega
    simp only [Int.natCast_zero,Int.neg_zero,Int.sub_zero,Int.ofNat_zero] at d4 d6 e4 e5
    go_enter Tryz.func112,Tryz.ntmps112
    go_wp2_with fail
    go_quiet (fail)
    go_wp2_with fail
    go_ret
    exact ⟨rfl,below_drewN (Below.refl _ _) _⟩
   ·have t2:¬ (m:Int) - (b:Int)≤(b:Int):=by omega
    have t5:0 < b:=by omega
    have t6:¬ (b:Int) < 0:=by omega
    go_enter Tryz.func112,Tryz.ntmps112
    go_wp2_with fail
    go_quiet (fail)
    go_wp2_with fail
    go_ret
    exact ⟨rfl,below_drewN (Below.refl _ _) _⟩
theorem rpoolNear_any (s:Int) (m:Nat) (w:World) (h1:m≤1024) (h2:-131072≤s) (h3:s≤131072) :
  Calls Tryz.prog 93 #[.int .i64 s,.int .i64 m] w fun e w'=>e=.returned (.int .i64 (nearV s m))∧Below w.heap.size w w':=by
 unfold nearV
 by_cases m0:m=0
 ·rw [if_pos m0]
  subst m0
  go_enter Tryz.func93,Tryz.ntmps93
  go_wp2_with fail
  go_ret
  exact ⟨rfl,Below.refl _ _⟩
 rw [if_neg m0]
 have mp:¬ (m:Int) < 1:=by omega
 have mz:¬ (m:Int)=0:=by omega
 obtain ⟨res,hres⟩:∃ r:Int,(if s < 0 then -(nearN s.natAbs m:Int) else (nearN s.natAbs m:Int))=r:=⟨_,rfl⟩
 rw [hres]
 unfold nearN at hres
 by_cases b1:s < 0
 ·rw [if_pos b1] at hres
  obtain ⟨k,rfl⟩:∃ k:Nat,s=-(k:Int):=⟨s.natAbs,by omega⟩
  rw [show (-(k:Int)).natAbs=k by omega] at hres
  obtain ⟨a,ha⟩:∃ a,k / m=a:=⟨_,rfl⟩
  obtain ⟨b,hb⟩:∃ b,k % m=b:=⟨_,rfl⟩
  have ha2:a≤k:=by rw [← ha];exact Nat.div_le_self _ _
  have hb2:b < m:=by rw [← hb];exact Nat.mod_lt _ (by omega)
  have d1:(-(k:Int)).tdiv (m:Int)=-(a:Int):=by rw [Int.neg_tdiv,Int.tdiv_eq_ediv_of_nonneg (by omega),← ha];simp
  have d2:(-(k:Int)).tmod (m:Int)=-(b:Int):=by rw [Int.neg_tmod,Int.tmod_eq_emod_of_nonneg (by omega),← hb];simp
  have d3:(k:Int).tdiv (m:Int)=(a:Int):=by rw [Int.tdiv_eq_ediv_of_nonneg (by omega),← ha];simp
  have d4:(k:Int).tmod (m:Int)=(b:Int):=by rw [Int.tmod_eq_emod_of_nonneg (by omega),← hb];simp
  have d5:(k:Int) / (m:Int)=(a:Int):=by rw [← ha];simp
  have d6:(k:Int) % (m:Int)=(b:Int):=by rw [← hb];simp
  have e1:IntKind.i64.wrap (-(a:Int))=-(a:Int):=IntWalk.i64_in _ (by omega)
  have e2:IntKind.i64.wrap (-(b:Int))=-(b:Int):=IntWalk.i64_in _ (by omega)
  have e3:IntKind.i64.wrap (a:Int)=(a:Int):=IntWalk.i64_in _ (by omega)
  have e4:IntKind.i64.wrap (b:Int)=(b:Int):=IntWalk.i64_in _ (by omega)
  have e5:IntKind.i64.wrap ((m:Int) - (b:Int))=(m:Int) - (b:Int):=IntWalk.i64_in _ (by omega)
  rw [ha,hb] at hres
  clear ha hb
  by_cases c1:m - b≤b
  ·rw [if_pos c1] at hres
   subst hres
   have t1:(m:Int)+-(b:Int)≤(b:Int):=by omega
   have t2:(m:Int) - (b:Int)≤(b:Int):=by omega
   have t3:¬ (0:Int) < -(b:Int):=by omega
   have t4:-(b:Int) < 0:=by omega
   have t5:0 < b:=by omega
   go_enter Tryz.func93,Tryz.ntmps93
   go_wp2_with fail
   go_quiet (fail)
   go_wp2_with fail
   go_ret
   exact ⟨by show Ending.returned (.int .i64 _)=_;go_num,below_drewN (Below.refl _ _) _⟩
  ·rw [if_neg c1,Nat.add_zero] at hres
   subst hres
   by_cases c2:b=0
   ·subst c2
    have t1:¬ (m:Int)≤0:=by omega
    have t2:¬ m≤0:=by omega
    simp only [Int.natCast_zero,Int.neg_zero,Int.sub_zero,Int.ofNat_zero] at d2 d4 d6 e2 e4 e5
    go_enter Tryz.func93,Tryz.ntmps93
    go_wp2_with fail
    go_quiet (fail)
    go_wp2_with fail
    go_ret
    exact ⟨rfl,below_drewN (Below.refl _ _) _⟩
   ·have t1:¬ (m:Int)+-(b:Int)≤(b:Int):=by omega
    have t2:¬ (m:Int) - (b:Int)≤(b:Int):=by omega
    have t3:¬ (0:Int) < -(b:Int):=by omega
    have t4:-(b:Int) < 0:=by omega
    have t5:0 < b:=by omega
    go_enter Tryz.func93,Tryz.ntmps93
    go_wp2_with fail
    go_quiet (fail)
    go_wp2_with fail
    go_ret
    exact ⟨rfl,below_drewN (Below.refl _ _) _⟩
 ·rw [if_neg b1] at hres
  obtain ⟨k,rfl⟩:∃ k:Nat,s=(k:Int):=⟨s.natAbs,by omega⟩
  rw [show ((k:Int)).natAbs=k by omega] at hres
  obtain ⟨a,ha⟩:∃ a,k / m=a:=⟨_,rfl⟩
  obtain ⟨b,hb⟩:∃ b,k % m=b:=⟨_,rfl⟩
  have ha2:a≤k:=by rw [← ha];exact Nat.div_le_self _ _
  have hb2:b < m:=by rw [← hb];exact Nat.mod_lt _ (by omega)
  have d3:(k:Int).tdiv (m:Int)=(a:Int):=by rw [Int.tdiv_eq_ediv_of_nonneg (by omega),← ha];simp
  have d4:(k:Int).tmod (m:Int)=(b:Int):=by rw [Int.tmod_eq_emod_of_nonneg (by omega),← hb];simp
  have d5:(k:Int) / (m:Int)=(a:Int):=by rw [← ha];simp
  have d6:(k:Int) % (m:Int)=(b:Int):=by rw [← hb];simp
  have e3:IntKind.i64.wrap (a:Int)=(a:Int):=IntWalk.i64_in _ (by omega)
  have e4:IntKind.i64.wrap (b:Int)=(b:Int):=IntWalk.i64_in _ (by omega)
  have e5:IntKind.i64.wrap ((m:Int) - (b:Int))=(m:Int) - (b:Int):=IntWalk.i64_in _ (by omega)
  rw [ha,hb] at hres
  clear ha hb
  by_cases c1:m - b≤b
  ·rw [if_pos c1] at hres
   subst hres
   have t2:(m:Int) - (b:Int)≤(b:Int):=by omega
   have t5:0 < b:=by omega
   go_enter Tryz.func93,Tryz.ntmps93
   go_wp2_with fail
   go_quiet (fail)
   go_wp2_with fail
   go_ret
   exact ⟨by show Ending.returned (.int .i64 _)=_;go_num,below_drewN (Below.refl _ _) _⟩
  ·rw [if_neg c1,Nat.add_zero] at hres
   subst hres
   by_cases c2:b=0
   ·subst c2
    have t1:¬ (m:Int)≤0:=by omega
    have t2:¬ m≤0:=by omega
    simp only [Int.natCast_zero,Int.neg_zero,Int.sub_zero,Int.ofNat_zero] at d4 d6 e4 e5
    go_enter Tryz.func93,Tryz.ntmps93
    go_wp2_with fail
    go_quiet (fail)
    go_wp2_with fail
    go_ret
    exact ⟨rfl,below_drewN (Below.refl _ _) _⟩
   ·have t2:¬ (m:Int) - (b:Int)≤(b:Int):=by omega
    have t5:0 < b:=by omega
    have t6:¬ (b:Int) < 0:=by omega
    go_enter Tryz.func93,Tryz.ntmps93
    go_wp2_with fail
    go_quiet (fail)
    go_wp2_with fail
    go_ret
    exact ⟨rfl,below_drewN (Below.refl _ _) _⟩
end Go.Proofs.YtjkmjpjknmghlaaGreat
namespace Go.Proofs.YtjkmjpjknmghlaaGreat
open Go.RowKit Go.ChangeShapes Go.WideShapes Fx
set_option maxRecDepth 100000
set_option maxHeartbeats 4000000
def sumL (l:List Int) (n:Nat):Int:=sumN n fun i=>l.getD i 0
def meanV (l:List Int):Int:=w8 (nearV (sumL l l.length) l.length)
theorem meanV_in (l:List Int):InK .i8 (meanV l):=w8_in _
theorem sumL_le {l:List Int} (h:∀ i,InK .i8 (l.getD i 0)) (n:Nat):(sumL l n).natAbs≤n*128:=sumN_le fun i _=>by have:=h i;rw [inK_i8] at this;omega
theorem poolMean_any (A:Option Addr) (n cap:Nat) (l:List Int) (w:World) (hl:Sl (tInt .i8) w (blo w.heap.size) A n cap l) (hn:n≤1024) :
  Calls Tryz.prog 81 #[.slice A n cap] w fun e w'=>e=.returned (.int .i8 (meanV l))∧Below w.heap.size w w':=by
 have H:=zH hl
 unfold meanV
 rw [hl.n_eq]
 have LE:=zH (fun k=>sumL_le (fun i=>hl.allK i) k)
 clear hl
 go_enter Tryz.func81,Tryz.ntmps81
 go_wp2_with fail
 go_loopw [3,8] (fun u ii wr=>∃ k:Nat,k≤n∧ii=.int .i64 k∧u=.int .i64 (sumL l k)∧w=wr) (fun _ ii _=>n - (intOf ii).toNat)
 case atStart=>exact ⟨0,Nat.zero_le _,rfl,rfl,rfl⟩
 case round =>
  obtain ⟨k,hk,rfl,rfl,rfl⟩:=hrel
  have b1:=LE.out k
  by_cases hlt:k < n
  ·have p1:(k:Int) < (n:Int):=by omega
   have b2:=LE.out (k+1)
   obtain ⟨b,o,rfl,-,-,cx,ix⟩:=H.out.int_at k hlt
   have hs:sumL l (k+1)=sumL l k+l.getD k 0:=rfl
   obtain ⟨x,hx⟩:∃ x,l.getD k 0=x:=⟨_,rfl⟩
   rw [hx] at cx ix hs
   rw [inK_i8] at ix
   obtain ⟨i1,i2⟩:=ix
   have HS:=zH hs
   obtain ⟨sv,hsv⟩:∃ x,sumL l k=x:=⟨_,rfl⟩
   rw [hsv] at b1 HS ⊢
   clear hx hs hsv
   go_wp2_with fail
   exact ⟨⟨k+1,by omega,by go_num,by rw [HS.out],by trivial⟩,by simp [intOf];omega⟩
  ·obtain rfl:k=n:=by omega
   have NE:=zH (fun w=>poolNear_any (sumL l k) k w hn (by omega) (by omega))
   go_wp2_with (go_at_call 112;refine (NE.out _).mono ?_;rintro e w2 ⟨rfl,hb⟩)
   go_ret
   exact ⟨rfl,hb⟩
theorem rpoolMean_any (A:Option Addr) (n cap:Nat) (l:List Int) (w:World) (hl:Sl (tInt .i8) w (blo w.heap.size) A n cap l) (hn:n≤1024) :
  Calls Tryz.prog 60 #[.slice A n cap] w fun e w'=>e=.returned (.int .i8 (meanV l))∧Below w.heap.size w w':=by
 have H:=zH hl
 unfold meanV
 rw [hl.n_eq]
 have LE:=zH (fun k=>sumL_le (fun i=>hl.allK i) k)
 clear hl
 go_enter Tryz.func60,Tryz.ntmps60
 go_wp2_with fail
 go_loopw [3,4] (fun u ii wr=>∃ k:Nat,k≤n∧ii=.int .i64 k∧u=.int .i64 (sumL l k)∧w=wr) (fun _ ii _=>n - (intOf ii).toNat)
 case atStart=>exact ⟨0,Nat.zero_le _,rfl,rfl,rfl⟩
 case round =>
  obtain ⟨k,hk,rfl,rfl,rfl⟩:=hrel
  have b1:=LE.out k
  by_cases hlt:k < n
  ·have p1:(k:Int) < (n:Int):=by omega
   have b2:=LE.out (k+1)
   obtain ⟨b,o,rfl,-,-,cx,ix⟩:=H.out.int_at k hlt
   have hs:sumL l (k+1)=sumL l k+l.getD k 0:=rfl
   obtain ⟨x,hx⟩:∃ x,l.getD k 0=x:=⟨_,rfl⟩
   rw [hx] at cx ix hs
   rw [inK_i8] at ix
   obtain ⟨i1,i2⟩:=ix
   have HS:=zH hs
   obtain ⟨sv,hsv⟩:∃ x,sumL l k=x:=⟨_,rfl⟩
   rw [hsv] at b1 HS ⊢
   clear hx hs hsv
   go_wp2_with fail
   exact ⟨⟨k+1,by omega,by go_num,by rw [HS.out],by trivial⟩,by simp [intOf];omega⟩
  ·obtain rfl:k=n:=by omega
   have NE:=zH (fun w=>rpoolNear_any (sumL l k) k w hn (by omega) (by omega))
   go_wp2_with (go_at_call 93;refine (NE.out _).mono ?_;rintro e w2 ⟨rfl,hb⟩)
   go_ret
   exact ⟨rfl,hb⟩
theorem tensorFlat_any (t:Tensor) (A:Option Addr) (n cap:Nat) (w:World) (ht:TensorIn t) (ha:Sl (tInt .i8) w (blo w.heap.size) A n cap t.data) (c1:t.ok=true) :
  Calls Tryz.prog 48 #[.agg (tN t.h t.v t.c A n cap)] w (RetT .i8 ⟨1,1,n,t.data⟩ 0 w):=by
 have HA:=zH ha
 obtain ⟨H,V,C,TK⟩:=tok_of c1
 have hn2:n≤1024:=by have:=TK.n_le;rw [ha.n_eq] at this;exact this
 have c1':decide (0 < elems t.h t.v t.c∧elems t.h t.v t.c=n)=true:=by rw [← HA.out.n_eq];simpa [Tensor.ok] using c1
 have RI:=zH (fun w=>tensorRight_any t.h t.v t.c A n cap w ht.h ht.v ht.c (Nat.le_trans ha.cap_le ha.max_le))
 rw [c1'] at RI
 have mx:n≤9223372036854775807:=by omega
 have FR:=zH (Far.refl w)
 obtain ⟨w1,hw_w1,BA,k_w1⟩:=nB w (tN t.h t.v t.c A n cap) 27
 replace FR:=zH (FR.out.fut k_w1)
 clear k_w1
 obtain ⟨w2,hw_w2,BR,k_w2⟩:=nB w1 (tN 0 0 0 none 0 0) 27
 replace FR:=zH (FR.out.fut k_w2)
 replace BA:=zH (BA.out.fut k_w2)
 clear k_w2
 have l1:w.heap.size < w1.heap.size:=by rw [← hw_w1];simp
 clear ht ha c1 c1' TK
 go_enter Tryz.func48,Tryz.ntmps48
 go_wp2_with (first|(refine lB 27 (.tmp 1) w.heap.size BA.out Tryz.underlying27 ?_)|(go_at_call 13;refine (RI.out _).mono ?_;rintro e w4 ⟨rfl,hb⟩;have l4:=hb.size;replace FR:=zH (FR.out.fut hb);replace BA:=zH (BA.out.fut hb);replace BR:=zH (BR.out.fut hb);clear hb hw_w1 hw_w2))
 have fd:Below w.heap.size w w4.drew:=FR.out.out.drew
 refine wp_region_T (fun w'=>w'.cell? ⟨w.heap.size,3,none⟩=some (.slice A n cap)∧Below w4.drew.heap.size w4.drew w') 8 (by kernel_rfl) ?_ (fun hS=>?_)
 ·exact ⟨BA.out.drew.cell 3,Below.refl _ _⟩
 refine kT 0 rfl hS ?_
 try simp only [pX]
 refine kT 1 rfl hS ?_
 try simp only [pX]
 refine kT 2 rfl hS ?_
 try simp only [pX]
 refine kT 3 rfl hS ?_
 try simp only [pX]
 refine kT 4 rfl hS ?_
 try simp only [pX]
 refine kT 5 rfl hS ?_
 try simp only [pX]
 refine wpAnyT_one (i:=6) (by kernel_rfl) rfl rfl (fun K hK=>?_)
 go_simp
 refine (clone8_any A n cap t.data _ ((Old.now HA.out).fut fd).all (by omega)).mono ?_;rintro e wm ⟨RA,rn,rc,rfl,rs,hb⟩
 refine hK.out _ _ ?_ (fun hS=>?_)
 ·exact ⟨(by first|exact cell_later hb hS.1|exact Blk.later hS.1 hb),(by first|exact below_later hb hS.2|exact grown_below hS.2 hb)⟩
 clear hK K
 try simp only [pX]
 refine kT 7 rfl hS ?_
 try simp only [pX]
 refine wpAnyT_tail _ _ rfl rfl (by kernel_rfl) ?_
 have kd:=(show Below w4.heap.size w4 w4.drew from (Below.refl _ _).drew).trans hb
 have RS:=zH (show New w4 (tInt .i8) wm RA rn rc t.data from ⟨rs⟩)
 have BR5:=zH (BR.out.fut kd)
 have lfr:=FR.out.size
 replace FR:=zH (FR.out.fut kd)
 have lbr:=BR.out.lt
 clear hS hb rs kd
 go_wp2_with (refine sB 27 (.tmp 2) (.tmp 15) w1.heap.size (tN 1 1 n RA rn rc) BR5.out ?_;intro w9 B9 g9)
 refine rC B9 Tryz.underlying27 ?_
 exact ⟨RA,rn,rc,rfl,(RS.out.away g9 lbr).out.more (bin_more lfr (Nat.le_refl _)),(FR.out.away g9 (by omega)).out⟩
end Go.Proofs.YtjkmjpjknmghlaaGreat
namespace Go.Proofs.YtjkmjpjknmghlaaGreat
open Go.RowKit Go.ChangeShapes Go.WideShapes
set_option maxRecDepth 100000
set_option maxHeartbeats 8000000 in
theorem rdense25_any (h v c:Int) (d:Node) (W:Option Addr) (nw cw:Nat) (B:Option Addr) (nb cb:Nat) (w:World) (h0:InK .i64 h) (h1:InK .i64 v) (h2:InK .i64 c) (hout:InK .i64 d.out) (hnw:nw=d.w.length) (hnb:nb=d.bias.length) (mw:nw≤1048576) (mb:nb≤1048576) :
  Calls Tryz.prog 56 #[.agg (sN h v c),.agg (nN d.kind d.a d.b d.k d.s d.p d.out d.za d.zb W nw cw B nb cb d.qm d.qs d.qz d.rm d.rs d.rz d.lo d.hi)] w fun e w'=>e=retS (denseV h v c d)∧Below w.heap.size w w':=by
 obtain ⟨r,hr⟩:∃ r,denseV h v c d=r:=⟨_,rfl⟩
 rw [hr]
 unfold denseV at hr
 rw [← hnw,← hnb] at hr
 have VV:=zH hr.symm
 have RI:=zH (fun w=>relems_any h c v w h0 h1 h2)
 have RT:=zH (fun w=>relems_any 1 d.out 1 w (by decide) (by decide) hout)
 have RE:=zH (fun w=>relems_any h c v w h0 h1 h2)
 have m0:=elems_range h v c
 have q0:=elems_range 1 1 d.out
 have qb:=zH (elems_bd (h:=1) (v:=1) (c:=d.out))
 obtain ⟨m,hm⟩:∃ m,elems h v c=m:=⟨_,rfl⟩
 obtain ⟨q,hq⟩:∃ q,elems 1 1 d.out=q:=⟨_,rfl⟩
 rw [hm] at VV RI RE m0
 rw [hq] at VV RT q0 qb
 clear hr h0 h1 h2 hout hnw hnb hm hq
 have FR:=zH (Far.refl w)
 obtain ⟨w1,hw_w1,BA,k_w1⟩:=nB w (sN h v c) 24
 replace FR:=zH (FR.out.fut k_w1)
 clear k_w1
 obtain ⟨w2,hw_w2,BN,k_w2⟩:=nB w1 (nN d.kind d.a d.b d.k d.s d.p d.out d.za d.zb W nw cw B nb cb d.qm d.qs d.qz d.rm d.rs d.rz d.lo d.hi) 44
 replace FR:=zH (FR.out.fut k_w2)
 replace BA:=zH (BA.out.fut k_w2)
 clear k_w2
 obtain ⟨w3,hw_w3,BR,k_w3⟩:=nB w2 (sN 0 0 0) 24
 replace FR:=zH (FR.out.fut k_w3)
 replace BA:=zH (BA.out.fut k_w3)
 replace BN:=zH (BN.out.fut k_w3)
 clear k_w3
 have l1:w.heap.size < w1.heap.size:=by rw [← hw_w1];simp
 have l2:w1.heap.size < w2.heap.size:=by rw [← hw_w2];simp
 have l3:w2.heap.size < w3.heap.size:=by rw [← hw_w3];simp
 have n6:=BN.out.cell 6
 obtain ⟨w4,hw_w4,BT,k_w4⟩:=nB w3 (sN 0 0 0) 24
 replace FR:=zH (FR.out.fut k_w4)
 replace BA:=zH (BA.out.fut k_w4)
 replace BN:=zH (BN.out.fut k_w4)
 replace BR:=zH (BR.out.fut k_w4)
 clear k_w4
 by_cases c1:m=0
 ·have m_:(m == 0)=true:=by simp;omega
  have R:=zH (show r=noS 5 by rw [VV.out,if_pos (.inl c1)])
  clear c1 VV m0 q0 qb
  go_enter Tryz.func56,Tryz.ntmps56
  go_wp2_with (first
   | (refine sB 24 (.tmp 6) (.tmp 9) w3.heap.size (sN 1 1 d.out) BT.out ?_;intro w5 BT6 g6;have BA5:=zH (BA.out.away g6 (by omega));have BN5:=zH (BN.out.away g6 (by omega));have BR5:=zH (BR.out.away g6 (by omega));have FR5:=zH (FR.out.away g6 (by omega));have BT5:=zH BT6)
   | (refine lB 24 (.tmp 2) w.heap.size BA5.out Tryz.underlying24 ?_))
  clear hw_w1 hw_w2 hw_w3 hw_w4 n6 g6 BT6 FR BA BN BR BT
  refine (RI.out _).mono ?_
  rintro e w6 ⟨rfl,hb⟩
  replace FR5:=zH (FR5.out.fut hb)
  replace BA5:=zH (BA5.out.fut hb)
  replace BN5:=zH (BN5.out.fut hb)
  replace BR5:=zH (BR5.out.fut hb)
  replace BT5:=zH (BT5.out.fut hb)
  clear hb
  go_wp2_with (first
   | (refine sB 24 (.tmp 4) (.tmp 18) w2.heap.size (sN 0 0 0) BR5.out ?_;intro w7 BR7 g7))
  refine rC BR7 Tryz.underlying24 ?_;exact ⟨by rw [R.out];rfl,(FR5.out.away g7 (by omega)).out⟩
 have m_:(m == 0)=false:=by simp;omega
 by_cases c2:q=0
 ·have q_:(q == 0)=true:=by simp;omega
  have R:=zH (show r=noS 5 by rw [VV.out,if_pos (.inr c2)])
  clear c1 c2 VV m0 q0 qb
  go_enter Tryz.func56,Tryz.ntmps56
  go_wp2_with (first
   | (refine sB 24 (.tmp 6) (.tmp 9) w3.heap.size (sN 1 1 d.out) BT.out ?_;intro w5 BT6 g6;have BA5:=zH (BA.out.away g6 (by omega));have BN5:=zH (BN.out.away g6 (by omega));have BR5:=zH (BR.out.away g6 (by omega));have FR5:=zH (FR.out.away g6 (by omega));have BT5:=zH BT6)
   | (refine lB 24 (.tmp 2) w.heap.size BA5.out Tryz.underlying24 ?_))
  clear hw_w1 hw_w2 hw_w3 hw_w4 n6 g6 BT6 FR BA BN BR BT
  refine (RI.out _).mono ?_
  rintro e w6 ⟨rfl,hb⟩
  replace FR5:=zH (FR5.out.fut hb)
  replace BA5:=zH (BA5.out.fut hb)
  replace BN5:=zH (BN5.out.fut hb)
  replace BR5:=zH (BR5.out.fut hb)
  replace BT5:=zH (BT5.out.fut hb)
  clear hb
  have u0:=BT5.out.cell 0
  have u1:=BT5.out.cell 1
  have u2:=BT5.out.cell 2
  go_wp2_with fail
  clear u0 u1 u2
  refine (RT.out _).mono ?_
  rintro e w8 ⟨rfl,hb⟩
  replace FR5:=zH (FR5.out.fut hb)
  replace BA5:=zH (BA5.out.fut hb)
  replace BN5:=zH (BN5.out.fut hb)
  replace BR5:=zH (BR5.out.fut hb)
  replace BT5:=zH (BT5.out.fut hb)
  clear hb
  go_wp2_with (first
   | (refine sB 24 (.tmp 4) (.tmp 18) w2.heap.size (sN 0 0 0) BR5.out ?_;intro w7 BR7 g7))
  refine rC BR7 Tryz.underlying24 ?_;exact ⟨by rw [R.out];rfl,(FR5.out.away g7 (by omega)).out⟩
 have q_:(q == 0)=false:=by simp;omega
 have ob:=qb.out c2
 obtain ⟨m1,hm1⟩:∃ x,d.out*m=x:=⟨_,rfl⟩
 have b1:=prod_bd (a:=d.out) (b:=m) (m:=1024) (n:=1024) (by omega) (by omega) (by omega) (by omega) (by omega)
 have e1:IntKind.i64.wrap (d.out*m)=m1:=by rw [← hm1];exact IntWalk.i64_in _ (by omega)
 have V2:=zH (show r=(if ¬ (nw:Int)=m1 ∨ 16384 < nw ∨ ¬ (nb:Int)=d.out then noS 9 else ((1,1,d.out),0)) by rw [VV.out,if_neg (by omega),hm1])
 clear VV c1 c2 m0 q0 qb ob b1 hm1
 by_cases p1:(nw:Int)=m1
 rotate_left
 ·have t1:((nw:Int) != m1)=true:=by simpa using p1
  have R:=zH (show r=noS 9 by rw [V2.out,if_pos (.inl p1)])
  clear V2 p1
  go_enter Tryz.func56,Tryz.ntmps56
  go_wp2_with (first
   | (refine sB 24 (.tmp 6) (.tmp 9) w3.heap.size (sN 1 1 d.out) BT.out ?_;intro w5 BT6 g6;have BA5:=zH (BA.out.away g6 (by omega));have BN5:=zH (BN.out.away g6 (by omega));have BR5:=zH (BR.out.away g6 (by omega));have FR5:=zH (FR.out.away g6 (by omega));have BT5:=zH BT6)
   | (refine lB 24 (.tmp 2) w.heap.size BA5.out Tryz.underlying24 ?_))
  clear hw_w1 hw_w2 hw_w3 hw_w4 n6 g6 BT6 FR BA BN BR BT
  refine (RI.out _).mono ?_
  rintro e w6 ⟨rfl,hb⟩
  replace FR5:=zH (FR5.out.fut hb)
  replace BA5:=zH (BA5.out.fut hb)
  replace BN5:=zH (BN5.out.fut hb)
  replace BR5:=zH (BR5.out.fut hb)
  replace BT5:=zH (BT5.out.fut hb)
  clear hb
  have u0:=BT5.out.cell 0
  have u1:=BT5.out.cell 1
  have u2:=BT5.out.cell 2
  go_wp2_with fail
  clear u0 u1 u2
  refine (RT.out _).mono ?_
  rintro e w8 ⟨rfl,hb⟩
  replace FR5:=zH (FR5.out.fut hb)
  replace BA5:=zH (BA5.out.fut hb)
  replace BN5:=zH (BN5.out.fut hb)
  replace BR5:=zH (BR5.out.fut hb)
  replace BT5:=zH (BT5.out.fut hb)
  clear hb
  go_wp2_with fail
  have y2:=fun (x:Ext w8)=>(BA5.out.ext x).cell 2
  have y0:=fun (x:Ext w8)=>(BA5.out.ext x).cell 0
  have y1:=fun (x:Ext w8)=>(BA5.out.ext x).cell 1
  have z6:=fun (x:Ext w8)=>(BN5.out.ext x).cell 6
  have z9:=fun (x:Ext w8)=>(BN5.out.ext x).cell 9
  have z10:=fun (x:Ext w8)=>(BN5.out.ext x).cell 10
  have E1:=zH (fun x:Ext w8=>calls_ext x (RE.out x.1))
  refine wp_region_ext w8 (by kernel_rfl) (by kernel_rfl) (Below.refl _ _) ?_
  repeat (go_big_quiet_step (exact E1.out _))
  refine wpQuiet_nil ?_
  rintro w9 ⟨x,hx⟩
  have hb:Below w8.heap.size w8 w9:=by rw [hx];exact x.2
  clear y0 y1 y2 z6 z9 z10 E1 hx x
  replace FR5:=zH (FR5.out.fut hb)
  replace BA5:=zH (BA5.out.fut hb)
  replace BN5:=zH (BN5.out.fut hb)
  replace BR5:=zH (BR5.out.fut hb)
  replace BT5:=zH (BT5.out.fut hb)
  clear hb
  try dsimp only
  go_wp2_with (first
   | (refine sB 24 (.tmp 4) (.tmp 42) w2.heap.size (sN 0 0 0) BR5.out ?_;intro w7 BR7 g7))
  refine rC BR7 Tryz.underlying24 ?_;exact ⟨by rw [R.out];rfl,(FR5.out.away g7 (by omega)).out⟩
 have t1:((nw:Int) != m1)=false:=by simpa using p1
 have P1:=zH p1
 clear p1
 by_cases p2:16384 < nw
 ·have t2:decide (16384 < (nw:Int))=true:=by simp;omega
  have R:=zH (show r=noS 9 by rw [V2.out,if_pos (.inr (.inl p2))])
  clear V2 p2
  go_enter Tryz.func56,Tryz.ntmps56
  go_wp2_with (first
   | (refine sB 24 (.tmp 6) (.tmp 9) w3.heap.size (sN 1 1 d.out) BT.out ?_;intro w5 BT6 g6;have BA5:=zH (BA.out.away g6 (by omega));have BN5:=zH (BN.out.away g6 (by omega));have BR5:=zH (BR.out.away g6 (by omega));have FR5:=zH (FR.out.away g6 (by omega));have BT5:=zH BT6)
   | (refine lB 24 (.tmp 2) w.heap.size BA5.out Tryz.underlying24 ?_))
  clear hw_w1 hw_w2 hw_w3 hw_w4 n6 g6 BT6 FR BA BN BR BT
  refine (RI.out _).mono ?_
  rintro e w6 ⟨rfl,hb⟩
  replace FR5:=zH (FR5.out.fut hb)
  replace BA5:=zH (BA5.out.fut hb)
  replace BN5:=zH (BN5.out.fut hb)
  replace BR5:=zH (BR5.out.fut hb)
  replace BT5:=zH (BT5.out.fut hb)
  clear hb
  have u0:=BT5.out.cell 0
  have u1:=BT5.out.cell 1
  have u2:=BT5.out.cell 2
  go_wp2_with fail
  clear u0 u1 u2
  refine (RT.out _).mono ?_
  rintro e w8 ⟨rfl,hb⟩
  replace FR5:=zH (FR5.out.fut hb)
  replace BA5:=zH (BA5.out.fut hb)
  replace BN5:=zH (BN5.out.fut hb)
  replace BR5:=zH (BR5.out.fut hb)
  replace BT5:=zH (BT5.out.fut hb)
  clear hb
  go_wp2_with fail
  have y2:=fun (x:Ext w8)=>(BA5.out.ext x).cell 2
  have y0:=fun (x:Ext w8)=>(BA5.out.ext x).cell 0
  have y1:=fun (x:Ext w8)=>(BA5.out.ext x).cell 1
  have z6:=fun (x:Ext w8)=>(BN5.out.ext x).cell 6
  have z9:=fun (x:Ext w8)=>(BN5.out.ext x).cell 9
  have z10:=fun (x:Ext w8)=>(BN5.out.ext x).cell 10
  have E1:=zH (fun x:Ext w8=>calls_ext x (RE.out x.1))
  refine wp_region_ext w8 (by kernel_rfl) (by kernel_rfl) (Below.refl _ _) ?_
  repeat (go_big_quiet_step (exact E1.out _))
  refine wpQuiet_nil ?_
  rintro w9 ⟨x,hx⟩
  have hb:Below w8.heap.size w8 w9:=by rw [hx];exact x.2
  clear y0 y1 y2 z6 z9 z10 E1 hx x
  replace FR5:=zH (FR5.out.fut hb)
  replace BA5:=zH (BA5.out.fut hb)
  replace BN5:=zH (BN5.out.fut hb)
  replace BR5:=zH (BR5.out.fut hb)
  replace BT5:=zH (BT5.out.fut hb)
  clear hb
  try dsimp only
  go_wp2_with (first
   | (refine sB 24 (.tmp 4) (.tmp 42) w2.heap.size (sN 0 0 0) BR5.out ?_;intro w7 BR7 g7))
  refine rC BR7 Tryz.underlying24 ?_;exact ⟨by rw [R.out];rfl,(FR5.out.away g7 (by omega)).out⟩
 have t2:decide (16384 < (nw:Int))=false:=by simp;omega
 have P2:=zH p2
 clear p2
 by_cases p3:(nb:Int)=d.out
 rotate_left
 ·have t3:((nb:Int) != d.out)=true:=by simpa using p3
  have R:=zH (show r=noS 9 by rw [V2.out,if_pos (.inr (.inr p3))])
  clear V2 p3
  go_enter Tryz.func56,Tryz.ntmps56
  go_wp2_with (first
   | (refine sB 24 (.tmp 6) (.tmp 9) w3.heap.size (sN 1 1 d.out) BT.out ?_;intro w5 BT6 g6;have BA5:=zH (BA.out.away g6 (by omega));have BN5:=zH (BN.out.away g6 (by omega));have BR5:=zH (BR.out.away g6 (by omega));have FR5:=zH (FR.out.away g6 (by omega));have BT5:=zH BT6)
   | (refine lB 24 (.tmp 2) w.heap.size BA5.out Tryz.underlying24 ?_))
  clear hw_w1 hw_w2 hw_w3 hw_w4 n6 g6 BT6 FR BA BN BR BT
  refine (RI.out _).mono ?_
  rintro e w6 ⟨rfl,hb⟩
  replace FR5:=zH (FR5.out.fut hb)
  replace BA5:=zH (BA5.out.fut hb)
  replace BN5:=zH (BN5.out.fut hb)
  replace BR5:=zH (BR5.out.fut hb)
  replace BT5:=zH (BT5.out.fut hb)
  clear hb
  have u0:=BT5.out.cell 0
  have u1:=BT5.out.cell 1
  have u2:=BT5.out.cell 2
  go_wp2_with fail
  clear u0 u1 u2
  refine (RT.out _).mono ?_
  rintro e w8 ⟨rfl,hb⟩
  replace FR5:=zH (FR5.out.fut hb)
  replace BA5:=zH (BA5.out.fut hb)
  replace BN5:=zH (BN5.out.fut hb)
  replace BR5:=zH (BR5.out.fut hb)
  replace BT5:=zH (BT5.out.fut hb)
  clear hb
  go_wp2_with fail
  have y2:=fun (x:Ext w8)=>(BA5.out.ext x).cell 2
  have y0:=fun (x:Ext w8)=>(BA5.out.ext x).cell 0
  have y1:=fun (x:Ext w8)=>(BA5.out.ext x).cell 1
  have z6:=fun (x:Ext w8)=>(BN5.out.ext x).cell 6
  have z9:=fun (x:Ext w8)=>(BN5.out.ext x).cell 9
  have z10:=fun (x:Ext w8)=>(BN5.out.ext x).cell 10
  have E1:=zH (fun x:Ext w8=>calls_ext x (RE.out x.1))
  refine wp_region_ext w8 (by kernel_rfl) (by kernel_rfl) (Below.refl _ _) ?_
  repeat (go_big_quiet_step (exact E1.out _))
  refine wpQuiet_nil ?_
  rintro w9 ⟨x,hx⟩
  have hb:Below w8.heap.size w8 w9:=by rw [hx];exact x.2
  clear y0 y1 y2 z6 z9 z10 E1 hx x
  replace FR5:=zH (FR5.out.fut hb)
  replace BA5:=zH (BA5.out.fut hb)
  replace BN5:=zH (BN5.out.fut hb)
  replace BR5:=zH (BR5.out.fut hb)
  replace BT5:=zH (BT5.out.fut hb)
  clear hb
  try dsimp only
  go_wp2_with (first
   | (refine sB 24 (.tmp 4) (.tmp 42) w2.heap.size (sN 0 0 0) BR5.out ?_;intro w7 BR7 g7))
  refine rC BR7 Tryz.underlying24 ?_;exact ⟨by rw [R.out];rfl,(FR5.out.away g7 (by omega)).out⟩
 have t3:((nb:Int) != d.out)=false:=by simpa using p3
 have R:=zH (show r=((1,1,d.out),0) by rw [V2.out,if_neg (by rintro (h|h|h);exact h P1.out;exact P2.out h;exact h p3)])
 clear V2 p3
 go_enter Tryz.func56,Tryz.ntmps56
 go_wp2_with (first
  | (refine sB 24 (.tmp 6) (.tmp 9) w3.heap.size (sN 1 1 d.out) BT.out ?_;intro w5 BT6 g6;have BA5:=zH (BA.out.away g6 (by omega));have BN5:=zH (BN.out.away g6 (by omega));have BR5:=zH (BR.out.away g6 (by omega));have FR5:=zH (FR.out.away g6 (by omega));have BT5:=zH BT6)
  | (refine lB 24 (.tmp 2) w.heap.size BA5.out Tryz.underlying24 ?_))
 clear hw_w1 hw_w2 hw_w3 hw_w4 n6 g6 BT6 FR BA BN BR BT
 refine (RI.out _).mono ?_
 rintro e w6 ⟨rfl,hb⟩
 replace FR5:=zH (FR5.out.fut hb)
 replace BA5:=zH (BA5.out.fut hb)
 replace BN5:=zH (BN5.out.fut hb)
 replace BR5:=zH (BR5.out.fut hb)
 replace BT5:=zH (BT5.out.fut hb)
 clear hb
 have u0:=BT5.out.cell 0
 have u1:=BT5.out.cell 1
 have u2:=BT5.out.cell 2
 go_wp2_with fail
 clear u0 u1 u2
 refine (RT.out _).mono ?_
 rintro e w8 ⟨rfl,hb⟩
 replace FR5:=zH (FR5.out.fut hb)
 replace BA5:=zH (BA5.out.fut hb)
 replace BN5:=zH (BN5.out.fut hb)
 replace BR5:=zH (BR5.out.fut hb)
 replace BT5:=zH (BT5.out.fut hb)
 clear hb
 go_wp2_with fail
 have y2:=fun (x:Ext w8)=>(BA5.out.ext x).cell 2
 have y0:=fun (x:Ext w8)=>(BA5.out.ext x).cell 0
 have y1:=fun (x:Ext w8)=>(BA5.out.ext x).cell 1
 have z6:=fun (x:Ext w8)=>(BN5.out.ext x).cell 6
 have z9:=fun (x:Ext w8)=>(BN5.out.ext x).cell 9
 have z10:=fun (x:Ext w8)=>(BN5.out.ext x).cell 10
 have E1:=zH (fun x:Ext w8=>calls_ext x (RE.out x.1))
 refine wp_region_ext w8 (by kernel_rfl) (by kernel_rfl) (Below.refl _ _) ?_
 repeat (go_big_quiet_step (exact E1.out _))
 refine wpQuiet_nil ?_
 rintro w9 ⟨x,hx⟩
 have hb:Below w8.heap.size w8 w9:=by rw [hx];exact x.2
 clear y0 y1 y2 z6 z9 z10 E1 hx x
 replace FR5:=zH (FR5.out.fut hb)
 replace BA5:=zH (BA5.out.fut hb)
 replace BN5:=zH (BN5.out.fut hb)
 replace BR5:=zH (BR5.out.fut hb)
 replace BT5:=zH (BT5.out.fut hb)
 clear hb
 try dsimp only
 go_wp2_with (first
  | (refine lB 24 (.tmp 6) w3.heap.size BT5.out Tryz.underlying24 ?_)
  | (refine sB 24 (.tmp 4) (.tmp 43) w2.heap.size (sN 1 1 d.out) BR5.out ?_;intro w7 BR7 g7))
 refine rC BR7 Tryz.underlying24 ?_;exact ⟨by rw [R.out];rfl,(FR5.out.away g7 (by omega)).out⟩
end Go.Proofs.YtjkmjpjknmghlaaGreat
