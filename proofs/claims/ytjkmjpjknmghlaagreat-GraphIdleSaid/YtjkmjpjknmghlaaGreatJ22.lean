/-
  A product is shifted and rounded (layer 2): fix.Round, the document's Round.
  Which values a node takes (layer 27): takes, there, of; the document's There, second.
  slices.Clone at []int; rows of numbers that are alike (layer 22's Same).
-/
import Derived.Test.YtjkmjpjknmghlaaGreatJ14
set_option linter.unusedVariables false
set_option linter.unusedSimpArgs false
namespace Go.Proofs.YtjkmjpjknmghlaaGreat
open Go.RowKit Go.ChangeShapes Go.WideShapes
set_option maxRecDepth 100000
set_option maxHeartbeats 2000000
def sizeR (m:Nat) (s:Nat):Nat:=m / 2 ^ s+if s=0 then 0 else m / 2 ^ (s - 1) % 2
def roundV (v s:Int):Int:=if s < 0 ∨ 62 < s then 0 else if v < 0 then -(sizeR v.natAbs s.toNat:Int) else (sizeR v.natAbs s.toNat:Int)
theorem sizeR_le (m s:Nat):sizeR m s≤m:=by
 unfold sizeR
 split
 ·rename_i h;subst h;simp
 ·rename_i h
  obtain ⟨k,rfl⟩:∃ k,s=k+1:=⟨s - 1,by omega⟩
  rw [Nat.add_sub_cancel,Nat.pow_succ,← Nat.div_div_eq_div_mul]
  have:=Nat.div_le_self m (2 ^ k)
  omega
theorem and_half (m k:Nat) (hm:m < 18446744073709551616) (hk:k < 63):bits .and .u64 (m:Int) ((2 ^ k:Nat):Int) / ((2:Int) ^ k)=((m / 2 ^ k % 2:Nat):Int):=by
 have hp:2 ^ k < 18446744073709551616:=Nat.lt_of_lt_of_le (Nat.pow_lt_pow_right (by decide) hk) (by decide)
 rw [bits_and_u64_nat m (2 ^ k) hm hp]
 have:m &&& 2 ^ k=m / 2 ^ k % 2*2 ^ k:=by
  have e:=and_bit_var 64 m (k:Int) (by omega)
  rw [Int.toNat_natCast,Nat.min_eq_left (by omega),if_neg (by omega)] at e
  have e2:((2:Int) ^ k % 2 ^ 64).toNat=2 ^ k:=by
   have e3:((2:Int) ^ k)=((2 ^ k:Nat):Int):=by simp
   rw [e3]
   generalize 2 ^ k=p at *
   omega
  rw [e2] at e
  exact e
 rw [this,show ((2:Int) ^ k)=((2 ^ k:Nat):Int) by simp,← Int.natCast_ediv,Nat.mul_div_cancel _ (Nat.two_pow_pos k)]
theorem size_eq (m k:Nat) (hm:m≤9223372036854775808) (hk:k < 63):IntKind.u64.wrap ((m:Int) / 2 ^ (k+1)+bits BinOp.and IntKind.u64 (m:Int) (IntKind.u64.wrap (2 ^ k)) / 2 ^ k)=(sizeR m (k+1):Int):=by
 have hp:2 ^ k < 18446744073709551616:=Nat.lt_of_lt_of_le (Nat.pow_lt_pow_right (by decide) hk) (by decide)
 have e0:IntKind.u64.wrap (2 ^ k)=((2 ^ k:Nat):Int):=by
  rw [show ((2:Int) ^ k)=((2 ^ k:Nat):Int) by simp,IntKind.wrap_u64]
  generalize 2 ^ k=p at *
  omega
 rw [e0,and_half m k (by omega) hk,show ((2:Int) ^ (k+1))=((2 ^ (k+1):Nat):Int) by simp,← Int.natCast_ediv,← Int.natCast_add]
 have e1:m / 2 ^ (k+1)+m / 2 ^ k % 2=sizeR m (k+1):=by unfold sizeR;rw [if_neg (by omega),Nat.add_sub_cancel]
 have:=sizeR_le m (k+1)
 rw [e1,IntKind.wrap_u64]
 omega
theorem round_any (v s:Int) (w:World) (hv:InK .i64 v):Calls Tryz.prog 140 #[.int .i64 v,.int .i64 s] w fun e w'=>e=.returned (.int .i64 (roundV v s))∧Below w.heap.size w w':=by
 rw [inK_i64] at hv
 obtain ⟨hv1,hv2⟩:=hv
 unfold roundV
 by_cases a1:s < 0
 ·rw [if_pos (.inl a1)]
  go_enter Tryz.func140,Tryz.ntmps140
  go_wp2_with fail
  go_step3
  go_wp2_with fail
  rw [Exit.noGoto_ret]
  go_ret
  exact ⟨rfl,Below.refl _ _⟩
 ·by_cases a2:62 < s
  ·rw [if_pos (.inr a2)]
   go_enter Tryz.func140,Tryz.ntmps140
   go_wp2_with fail
   go_step3
   go_wp2_with fail
   rw [Exit.noGoto_ret]
   go_ret
   exact ⟨rfl,Below.refl _ _⟩
  ·rw [if_neg (by omega)]
   obtain ⟨n,rfl⟩:∃ n:Nat,s=n:=⟨s.toNat,by omega⟩
   rw [Int.toNat_natCast]
   have hs62:n≤62:=by omega
   clear a1 a2
   by_cases b1:v < 0
   ·rw [if_pos b1]
    obtain ⟨m,rfl⟩:∃ m:Nat,v=-(m:Int):=⟨v.natAbs,by omega⟩
    rw [show (-(m:Int)).natAbs=m by omega]
    have b2:¬ m=0:=by omega
    have hm:m≤9223372036854775808:=by omega
    obtain ⟨x,hx⟩:∃ x:Int,18446744073709551616 - (m:Int)=x:=⟨_,rfl⟩
    have u1:IntKind.u64.wrap (-(m:Int))=x:=by rw [IntKind.wrap_u64];omega
    have u2:IntKind.u64.wrap (-x)=(m:Int):=by rw [IntKind.wrap_u64];omega
    have u5:wrap64 x=-(m:Int):=by rw [← hx];unfold wrap64;omega
    obtain ⟨r,hr⟩:∃ r,sizeR m n=r:=⟨_,rfl⟩
    have hrm:r≤m:=by rw [← hr];exact sizeR_le m n
    obtain ⟨y,hy⟩:∃ y:Int,(-(r:Int)) % 18446744073709551616=y:=⟨_,rfl⟩
    have u3:IntKind.u64.wrap (-(r:Int))=y:=by rw [IntKind.wrap_u64,hy]
    have u4:IntKind.i64.wrap y=-(r:Int):=by rw [IntKind.wrap_i64,← hy];omega
    rw [hr]
    have b3:¬ (0:Int)≤-(m:Int):=by omega
    by_cases c1:n=0
    ·subst c1
     obtain rfl:m=r:=by rw [← hr];simp [sizeR]
     clear hx hy hr
     go_enter Tryz.func140,Tryz.ntmps140
     go_wp2_with fail
     go_step3
     go_wp2_with fail
     go_step3
     go_wp2_with fail
     rw [Exit.noGoto_ret]
     go_ret
     exact ⟨by show Ending.returned (.int .i64 (wrap64 x))=_;rw [u5],Below.refl _ _⟩
    ·obtain ⟨k,rfl⟩:∃ k,n=k+1:=⟨n - 1,by omega⟩
     have HR:=zH (size_eq m k hm (by omega))
     rw [hr] at HR
     clear hx hy hr
     go_enter Tryz.func140,Tryz.ntmps140
     go_wp2_with fail
     go_step3
     go_wp2_with fail
     go_step3
     go_wp2_with fail
     go_quiet (fail)
     rw [HR.out]
     go_wp2_with fail
     rw [Exit.noGoto_ret]
     go_ret
     exact ⟨rfl,below_drewN (Below.refl _ _) _⟩
   ·rw [if_neg b1]
    obtain ⟨m,rfl⟩:∃ m:Nat,v=(m:Int):=⟨v.natAbs,by omega⟩
    rw [show ((m:Int)).natAbs=m by omega]
    obtain ⟨r,hr⟩:∃ r,sizeR m n=r:=⟨_,rfl⟩
    have hrm:r≤m:=by rw [← hr];exact sizeR_le m n
    rw [hr]
    by_cases c1:n=0
    ·subst c1
     obtain rfl:m=r:=by rw [← hr];simp [sizeR]
     clear hr
     go_enter Tryz.func140,Tryz.ntmps140
     go_wp2_with fail
     refine wp_scope_fore 0 rfl ?_
     go_wp2_with fail
     go_step3
     refine ⟨rfl,?_⟩
     go_wp2_with fail
     rw [Exit.noGoto_ret]
     go_ret
     exact ⟨rfl,Below.refl _ _⟩
    ·obtain ⟨k,rfl⟩:∃ k,n=k+1:=⟨n - 1,by omega⟩
     have HR:=zH (size_eq m k (by omega) (by omega))
     rw [hr] at HR
     clear hr
     go_enter Tryz.func140,Tryz.ntmps140
     go_wp2_with fail
     refine wp_scope_fore 0 rfl ?_
     go_wp2_with fail
     go_step3
     refine ⟨rfl,?_⟩
     go_wp2_with fail
     go_quiet (fail)
     rw [HR.out]
     go_wp2_with fail
     rw [Exit.noGoto_ret]
     go_ret
     exact ⟨rfl,below_drewN (Below.refl _ _) _⟩
set_option maxHeartbeats 4000000
def takesV (d:Node):List Int:=if d.kind=6 then [d.a,d.b] else [d.a]
def secondV (d:Node):Int:=if d.kind=6 then d.b else d.a
def thereV (d:Node) (many:Int):Bool:=decide (0≤d.a∧d.a < many) && (decide (d.kind ≠ 6) || decide (0≤d.b∧d.b < many))
theorem takes_any (d:Node) (W:Option Addr) (nw cw:Nat) (B:Option Addr) (nb cb:Nat) (w:World) (ha:InK .i64 d.a) (hb:InK .i64 d.b) :
  Calls Tryz.prog 22 #[.agg (nN d.kind d.a d.b d.k d.s d.p d.out d.za d.zb W nw cw B nb cb d.qm d.qs d.qz d.rm d.rs d.rz d.lo d.hi)] w (RetSl (tInt .i64) w (takesV d)):=by
 have FR:=zH (Far.refl w)
 obtain ⟨w1,hw_w1,BN,k_w1⟩:=nB w (nN d.kind d.a d.b d.k d.s d.p d.out d.za d.zb W nw cw B nb cb d.qm d.qs d.qz d.rm d.rs d.rz d.lo d.hi) 44
 replace FR:=zH (FR.out.fut k_w1)
 clear k_w1
 have c0:=BN.out.cell 0
 have c1:=BN.out.cell 1
 have c2:=BN.out.cell 2
 have l1:w.heap.size≤w1.heap.size:=by rw [← hw_w1];simp
 have HA:=zH ha
 have HB:=zH hb
 clear ha hb
 unfold takesV
 by_cases k6:d.kind=6
 ·have t6:(d.kind == 6)=true:=by simpa using k6
  rw [if_pos k6]
  clear k6
  go_enter Tryz.func22,Tryz.ntmps22
  go_wp2_with fail
  go_ret
  refine ⟨some ⟨w1.heap.size,0,none⟩,2,2,rfl,Sl.lit [d.a,d.b] (heap_now _ _ _ rfl) rfl (by intro x hx;simp at hx;rcases hx with rfl|rfl;exact HA.out;exact HB.out) ⟨l1,by simp⟩ rfl rfl (by simp [maxLen]),FR.out.out.alloc l1 _⟩
 ·have t6:(d.kind == 6)=false:=by simpa using k6
  rw [if_neg k6]
  clear k6
  go_enter Tryz.func22,Tryz.ntmps22
  go_wp2_with fail
  go_ret
  refine ⟨some ⟨w1.heap.size,0,none⟩,1,1,rfl,Sl.lit [d.a] (heap_now _ _ _ rfl) rfl (by intro x hx;simp at hx;subst hx;exact HA.out) ⟨l1,by simp⟩ rfl rfl (by simp [maxLen]),FR.out.out.alloc l1 _⟩
theorem of_any (d:Node) (W:Option Addr) (nw cw:Nat) (B:Option Addr) (nb cb:Nat) (w:World) (ha:InK .i64 d.a) (hb:InK .i64 d.b) :
  Calls Tryz.prog 28 #[.agg (nN d.kind d.a d.b d.k d.s d.p d.out d.za d.zb W nw cw B nb cb d.qm d.qs d.qz d.rm d.rs d.rz d.lo d.hi)] w fun e w'=>e=.returned (.int .i64 (secondV d))∧Below w.heap.size w w':=by
 obtain ⟨r,hr⟩:∃ r,secondV d=r:=⟨_,rfl⟩
 rw [hr]
 have TK:=zH (fun w=>takes_any d W nw cw B nb cb w ha hb)
 have FR:=zH (Far.refl w)
 obtain ⟨w1,hw_w1,BN,k_w1⟩:=nB w (nN d.kind d.a d.b d.k d.s d.p d.out d.za d.zb W nw cw B nb cb d.qm d.qs d.qz d.rm d.rs d.rz d.lo d.hi) 44
 replace FR:=zH (FR.out.fut k_w1)
 clear k_w1
 unfold takesV at TK
 unfold secondV at hr
 by_cases k6:d.kind=6
 ·rw [if_pos k6] at TK hr
  have R:=zH hr
  clear k6 hr ha hb
  go_enter Tryz.func28,Tryz.ntmps28
  go_wp2_with (refine wpList_load_row rfl 44 (.tmp 1) rfl w.heap.size rfl _ _ (0,0) _ BN.out.heap Tryz.underlying44 rfl (by kernel_rfl) ?_)
  refine (TK.out _).mono ?_
  rintro e w2 ⟨A,n,cap,rfl,hs,hb⟩
  obtain rfl:n=2:=hs.n_eq.symm
  obtain ⟨b,off,rfl,_,_,c1,_⟩:=hs.int_at 1 (by decide)
  rw [show [d.a,d.b].getD 1 0=d.b from rfl] at c1
  replace FR:=zH (FR.out.fut hb)
  clear hb
  clear hs hw_w1
  go_wp2_with fail
  go_ret
  exact ⟨by rw [← R.out];rfl,FR.out.out⟩
 ·rw [if_neg k6] at TK hr
  have R:=zH hr
  clear k6 hr ha hb
  go_enter Tryz.func28,Tryz.ntmps28
  go_wp2_with (refine wpList_load_row rfl 44 (.tmp 1) rfl w.heap.size rfl _ _ (0,0) _ BN.out.heap Tryz.underlying44 rfl (by kernel_rfl) ?_)
  refine (TK.out _).mono ?_
  rintro e w2 ⟨A,n,cap,rfl,hs,hb⟩
  obtain rfl:n=1:=hs.n_eq.symm
  obtain ⟨b,off,rfl,_,_,c1,_⟩:=hs.int_at 0 (by decide)
  rw [show [d.a].getD 0 0=d.a from rfl,Nat.add_zero] at c1
  replace FR:=zH (FR.out.fut hb)
  clear hb
  clear hs hw_w1
  go_wp2_with fail
  go_ret
  exact ⟨by rw [← R.out];rfl,FR.out.out⟩
theorem there_any (d:Node) (W:Option Addr) (nw cw:Nat) (B:Option Addr) (nb cb:Nat) (many:Int) (w:World) (ha:InK .i64 d.a) (hb:InK .i64 d.b) :
  Calls Tryz.prog 21 #[.agg (nN d.kind d.a d.b d.k d.s d.p d.out d.za d.zb W nw cw B nb cb d.qm d.qs d.qz d.rm d.rs d.rz d.lo d.hi),.int .i64 many] w fun e w'=>e=.returned (.bool (thereV d many))∧Below w.heap.size w w':=by
 obtain ⟨r,hr⟩:∃ r,thereV d many=r:=⟨_,rfl⟩
 rw [hr]
 have TK:=zH (fun w=>takes_any d W nw cw B nb cb w ha hb)
 have FR:=zH (Far.refl w)
 obtain ⟨w1,hw_w1,BN,k_w1⟩:=nB w (nN d.kind d.a d.b d.k d.s d.p d.out d.za d.zb W nw cw B nb cb d.qm d.qs d.qz d.rm d.rs d.rz d.lo d.hi) 44
 replace FR:=zH (FR.out.fut k_w1)
 clear k_w1
 obtain ⟨l,hl⟩:∃ l,takesV d=l:=⟨_,rfl⟩
 rw [hl] at TK
 have R:=zH (show (r=true ↔ ∀ j,j < l.length → 0≤l.getD j 0∧l.getD j 0 < many)∧l.length≤2 by
  rw [← hr,← hl]
  unfold thereV takesV
  by_cases k6:d.kind=6
  ·rw [if_pos k6]
   refine ⟨?_,by simp⟩
   simp only [k6,Bool.and_eq_true,Bool.or_eq_true,decide_eq_true_eq,ne_eq,not_true_eq_false,false_or]
   constructor
   ·intro h j hj
    match j,hj with
    | 0,_=>exact h.1
    | 1,_=>exact h.2
   ·intro h;exact ⟨h 0 (by simp),h 1 (by simp)⟩
  ·rw [if_neg k6]
   refine ⟨?_,by simp⟩
   simp only [k6,Bool.and_eq_true,Bool.or_eq_true,decide_eq_true_eq,ne_eq,not_false_eq_true,true_or,and_true]
   constructor
   ·intro h j hj
    match j,hj with
    | 0,_=>exact h
   ·intro h;exact h 0 (by simp))
 clear hl hr ha hb
 go_enter Tryz.func21,Tryz.ntmps21
 go_wp2_with (refine wpList_load_row rfl 44 (.tmp 2) rfl w.heap.size rfl _ _ (0,0) _ BN.out.heap Tryz.underlying44 rfl (by kernel_rfl) ?_)
 refine (TK.out _).mono ?_
 rintro e w2 ⟨A,n,cap,rfl,hs,hb⟩
 have hn:=hs.n_eq
 have HS:=zH hs
 have hn2:=R.out.2
 rw [hn] at hn2
 replace FR:=zH (FR.out.fut hb)
 clear hb
 have HN:=zH hn
 clear hs hw_w1 TK hn
 go_wp2_with fail
 go_loopw [10] (fun i wr=>∃ k:Nat,k≤n∧i=.int .i64 k∧Below w2.heap.size w2 wr∧∀ j,j < k → 0≤l.getD j 0∧l.getD j 0 < many) (fun i _=>n - (intOf i).toNat)
 case atStart=>exact ⟨0,Nat.zero_le _,rfl,Below.refl _ _,fun j hj=>absurd hj (Nat.not_lt_zero _)⟩
 case round =>
  obtain ⟨k,hk,rfl,hb,hq⟩:=hrel
  have HQ:=zH hq
  have HB:=zH hb
  clear hq hb
  by_cases hlt:k < n
  ·obtain ⟨b,off,rfl,_,_,c0,_⟩:=(HS.out.below HB.out (fun _ h=>h.2)).int_at k hlt
   have p1:(k:Int) < (n:Int):=by omega
   obtain ⟨x,hx⟩:∃ x,l.getD k 0=x:=⟨_,rfl⟩
   rw [hx] at c0
   have HX:=zH hx
   clear hx
   by_cases g:0≤x∧x < many
   ·have g1:decide (x < 0)=false:=by simp;omega
    have g2:decide (many≤x)=false:=by simp;omega
    have G:=zH g
    clear g
    go_wp2_with fail
    refine ⟨⟨k+1,by omega,by go_num,HB.out,fun j hj=>?_⟩,by simp [intOf];omega⟩
    by_cases hjk:j < k
    ·exact HQ.out j hjk
    ·obtain rfl:j=k:=by omega
     rw [HX.out];exact G.out
   ·have RF:r=false:=by
     cases hr:r with
     | false=>rfl
     | true =>
      have h:=R.out.1.1 hr k (by rw [HN.out];exact hlt)
      rw [HX.out] at h
      exact absurd h g
    have RF':=zH RF
    clear RF
    by_cases g1:x < 0
    ·have t1:decide (x < 0)=true:=decide_eq_true g1
     clear g g1
     go_wp2_with fail
     go_ret
     exact ⟨by rw [RF'.out];rfl,below_later HB.out FR.out.out⟩
    ·have t1:decide (x < 0)=false:=decide_eq_false g1
     have t2:decide (many≤x)=true:=by simp;omega
     clear g g1
     go_wp2_with fail
     go_ret
     exact ⟨by rw [RF'.out];rfl,below_later HB.out FR.out.out⟩
  ·obtain rfl:k=n:=by omega
   have RT:=zH (R.out.1.2 (by rw [HN.out];exact HQ.out))
   clear hlt hk
   go_wp2_with fail
   go_ret
   exact ⟨by rw [RT.out];rfl,below_later HB.out FR.out.out⟩
theorem samei_eq (A A':Option Addr) (n cap n' cap':Nat) (l:List Int) (w:World) (h:Sl (tInt .i64) w (blo w.heap.size) A n cap l) (h':Sl (tInt .i64) w (blo w.heap.size) A' n' cap' l) :
  Calls Tryz.prog 11 #[.slice A n cap,.slice A' n' cap'] w fun e w'=>e=.returned (.bool true)∧Below w.heap.size w w':=by
 have hm:n≤9223372036854775807:=Nat.le_trans h.cap_le h.max_le
 obtain rfl:n=n':=h.n_eq.symm.trans h'.n_eq
 have H:=zH h
 have H':=zH h'
 clear h h'
 have d1:((n:Int) != (n:Int))=false:=by simp
 go_enter Tryz.func11,Tryz.ntmps11
 go_wp2_with fail
 go_loopw [5] (fun i wr=>∃ k:Nat,k≤n∧i=.int .i64 k∧wr.heap=w.heap∧Below w.heap.size w wr) (fun i _=>n - (intOf i).toNat)
 case atStart=>exact ⟨0,Nat.zero_le _,rfl,rfl,Below.refl _ _⟩
 case round =>
  obtain ⟨k,hk,rfl,hh,hb⟩:=hrel
  by_cases hlt:k < n
  ·obtain ⟨b,off,rfl,_,_,c0,i0⟩:=(H.out.below hb (fun _ h=>h)).int_at k hlt
   obtain ⟨b',off',rfl,_,_,c1,i1⟩:=(H'.out.below hb (fun _ h=>h)).int_at k hlt
   have HH:=zH hh
   clear hh i0 i1
   generalize hx:l.getD k 0=x at *
   have d3:(x != x)=false:=by simp
   clear hx
   go_wp2_with fail
   go_quiet (fail)
   go_wp2_with fail
   exact ⟨⟨k+1,by omega,by go_num,HH.out,below_drewN hb _⟩,by simp [intOf];omega⟩
  ·obtain rfl:k=n:=by omega
   go_wp2_with fail
   go_ret
   exact ⟨rfl,hb⟩
end Go.Proofs.YtjkmjpjknmghlaaGreat
