/-
  Nodes, tensors and sums as Lean data; an argument of these types opened.
  sat (layer 1): the product of two integers that is told where it leaves 64 bits. math/bits.Mul64 by the shelf's contract.
  shape and tensor (layers 4, 5): the number of elements of a shape, and whether a tensor is right; the program's and the document's.
-/
import Derived.Test.YtmihnoagagbgaaaGreatChecked
import Derived.Test.YtmihnoagagbgaaaGreatJ00
import Derived.Shelf.Bits.Mul64
set_option linter.unusedVariables false
set_option linter.unusedSimpArgs false
set_option maxRecDepth 100000
set_option maxHeartbeats 16000000
namespace Go.Proofs.YtmihnoagagbgaaaGreat
open Go.RowKit Go.ChangeShapes Go.WideShapes Tryz
set_option maxRecDepth 100000
set_option maxHeartbeats 16000000
structure af where
 kind:Int
 a:Int
 b:Int
 k:Int
 s:Int
 p:Int
 out:Int
 za:Int
 zb:Int
 w:List Int
 bias:List Int
 qm:Int
 qs:Int
 qz:Int
 rm:Int
 rs:Int
 rz:Int
 lo:Int
 hi:Int
abbrev nD (d:af) (W:QA) (nw cw:Nat) (B:QA) (nb cb:Nat):Array Value:=nN d.kind d.a d.b d.k d.s d.p d.out d.za d.zb W nw cw B nb cb d.qm d.qs d.qz d.rm d.rs d.rz d.lo d.hi
structure aE (d:af):Prop where
 kind:InK .i64 d.kind
 a:InK .i64 d.a
 b:InK .i64 d.b
 k:InK .i64 d.k
 s:InK .i64 d.s
 p:InK .i64 d.p
 out:InK .i64 d.out
 za:InK .i8 d.za
 zb:InK .i8 d.zb
 qm:InK .i32 d.qm
 qs:InK .i64 d.qs
 qz:InK .i8 d.qz
 rm:InK .i32 d.rm
 rs:InK .i64 d.rs
 rz:InK .i8 d.rz
 lo:InK .i8 d.lo
 hi:InK .i8 d.hi
abbrev sZ:=Int × Int × Int × Int × Int × Int × Int × Int × Int × List Int × List Int × (Int × Int × Int) × (Int × Int × Int) × Int × Int
def tY:sZ → af:=fun (kind,a,b,k,s,p,out,za,zb,w,bias,(qm,qs,qz),(rm,rs,rz),lo,hi)=>{ kind,a,b,k,s,p,out,za,zb,w,bias,qm,qs,qz,rm,rs,rz,lo,hi }
def mS:Ty (Int × Int × Int):=tPair (aa .i32) (tPair (aa .i64) (aa .i8))
def uc:Ty sZ:=tPair (aa .i64) (tPair (aa .i64) (tPair (aa .i64) (tPair (aa .i64) (tPair (aa .i64) (tPair (aa .i64) (tPair (aa .i64) (tPair (aa .i8) (tPair (aa .i8)
 (tPair (tSlice (aa .i8)) (tPair (tSlice (aa .i32)) (tPair mS (tPair mS (tPair (aa .i8) (aa .i8))))))))))))))
def ee:Ty af:=tMap tY uc
theorem qX {w:World} {S:Nat → Prop} {cs:List Value} {d:af} (h:ee.rep w S cs d) :
  ∃ W nw cw B nb cb,cs=[.int .i64 d.kind,.int .i64 d.a,.int .i64 d.b,.int .i64 d.k,.int .i64 d.s,.int .i64 d.p,.int .i64 d.out,.int .i8 d.za,.int .i8 d.zb,.slice W nw cw,.slice B nb cb,.int .i32 d.qm,.int .i64 d.qs,.int .i8 d.qz,.int .i32 d.rm,.int .i64 d.rs,.int .i8 d.rz,.int .i8 d.lo,.int .i8 d.hi]∧aE d∧Sl (aa .i8) w S W nw cw d.w∧Sl (aa .i32) w S B nb cb d.bias:=by
 obtain ⟨⟨kind,a,b,k,s,p,out,za,zb,wl,bias,⟨qm,qs,qz⟩,⟨rm,rs,rz⟩,lo,hi⟩,rfl,h⟩:=h
 obtain ⟨_,_,rfl,⟨rfl,h1⟩,_,_,rfl,⟨rfl,h2⟩,_,_,rfl,⟨rfl,h3⟩,_,_,rfl,⟨rfl,h4⟩,_,_,rfl,⟨rfl,h5⟩,_,_,rfl,⟨rfl,h6⟩,_,_,rfl,⟨rfl,h7⟩,_,_,rfl,⟨rfl,h8⟩,_,_,rfl,⟨rfl,h9⟩,
  _,_,rfl,hw,_,_,rfl,hbi,_,_,rfl,⟨_,_,rfl,⟨rfl,h10⟩,_,_,rfl,⟨rfl,h11⟩,rfl,h12⟩,_,_,rfl,⟨_,_,rfl,⟨rfl,h13⟩,_,_,rfl,⟨rfl,h14⟩,rfl,h15⟩,_,_,rfl,⟨rfl,h16⟩,rfl,h17⟩:=h
 obtain ⟨W,cw,rfl,hw'⟩:=eS.1 hw
 obtain ⟨B,cb,rfl,hb'⟩:=eS.1 hbi
 exact ⟨W,_,cw,B,_,cb,rfl,⟨h1,h2,h3,h4,h5,h6,h7,h8,h9,h10,h11,h12,h13,h14,h15,h16,h17⟩,hw',hb'⟩
/-! ### Tensors -/
structure ae where
 h:Int
 v:Int
 c:Int
 data:List Int
structure ak (t:ae):Prop where
 h:InK .i64 t.h
 v:InK .i64 t.v
 c:InK .i64 t.c
def dC:Ty (Int × Int × Int):=tPair (aa .i64) (tPair (aa .i64) (aa .i64))
def mT (k:IntKind):Ty ae:=tMap (fun (x:(Int × Int × Int) × List Int)=>⟨x.1.1,x.1.2.1,x.1.2.2,x.2⟩) (tPair dC (tSlice (aa k)))
def dE:Ty ae:=mT .i8
theorem ue {k:IntKind} {w:World} {S:Nat → Prop} {cs:List Value} {t:ae} (h:(mT k).rep w S cs t) :
  ∃ A n cap,cs=[.int .i64 t.h,.int .i64 t.v,.int .i64 t.c,.slice A n cap]∧ak t∧Sl (aa k) w S A n cap t.data:=by
 obtain ⟨⟨⟨a,b,c⟩,l⟩,rfl,_,_,rfl,⟨_,_,rfl,⟨rfl,h1⟩,_,_,rfl,⟨rfl,h2⟩,rfl,h3⟩,hs⟩:=h
 obtain ⟨A,cap,rfl,hs'⟩:=eS.1 hs
 exact ⟨A,_,cap,rfl,⟨h1,h2,h3⟩,hs'⟩
def ar (k:IntKind) (x:ae) (code:Int) (w:World) (e:Ending) (w':World):Prop :=
 ∃ A n cap,e=.returned (.tuple #[.agg (tN x.h x.v x.c A n cap),.int .i64 code])∧Sl (aa k) w' (bin w w') A n cap x.data∧Below w w w'
def aj:ae:=⟨0,0,0,[]⟩
theorem ar.none {k:IntKind} {code:Int} {w w':World} (hb:Below w w w'):ar k aj code w (.returned (.tuple #[.agg (tN 0 0 0 none 0 0),.int .i64 code])) w' :=
 ⟨Option.none,0,0,rfl,Sl.nil _ _ _,hb⟩
theorem kn:Opens prog 25 (tSlice (aa .i8)):=gv underlying25 kM dM (fo underlying37 kM)
theorem pE:Opens prog 38 (tSlice (aa .i32)):=gv underlying38 kM dM (fo underlying21 kM)
theorem cT:Opens prog 3 (aa .i64):=fo underlying3 kM
theorem fU:Opens prog 37 (aa .i8):=fo underlying37 kM
theorem qY:Opens prog 21 (aa .i32):=fo underlying21 kM
theorem nO:Opens prog 24 dC:=eN underlying24 kM (aH rfl cT (aH rfl cT (dR rfl cT)))
theorem mm:Opens prog 27 dE:=ko _ (eN underlying27 kM (aH rfl nO (dR rfl kn)))
theorem iP:Opens prog 40 mS:=eN underlying40 kM (aH rfl qY (aH rfl cT (dR rfl fU)))
theorem pF:Opens prog 42 ee:=ko _ (eN underlying42 kM
 (aH rfl cT (aH rfl cT (aH rfl cT (aH rfl cT (aH rfl cT (aH rfl cT (aH rfl cT (aH rfl fU (aH rfl fU
 (aH rfl kn (aH rfl pE (aH rfl iP (aH rfl iP (aH rfl fU (dR rfl fU))))))))))))))))
end Go.Proofs.YtmihnoagagbgaaaGreat
namespace Go.Proofs
open Tryz
open Go.Shelf
def Tryz.lays264_ren:Go.Shelf.Ren:=⟨fun|264=>109|n=>n,fun|53=>149|46=>155|n=>n,fun|n=>n⟩
theorem Tryz.lays264:Go.Proofs.Lays.n264 prog Tryz.lays264_ren:={
 mixed:=by kernel_rfl
 f264:=func109.trans (congrArg some (by kernel_rfl))
 t46:=underlying155
 a46:=Tryz.isAgg155
 z46:=Tryz.sizeOf155
 v46:=Tryz.zeroValue155
 t53:=underlying149
 a53:=Tryz.isAgg149
 z53:=Tryz.sizeOf149
 v53:=Tryz.zeroValue149 }
open Go.RowKit Go.Lib in
theorem Tryz.bits_Mul64 (x y:Nat) (hx:x < 18446744073709551616) (hy:y < 18446744073709551616) (w:World) :
  Calls prog 109 #[.int .u64 x,.int .u64 y] w fun e w'=>e=.returned (.tuple #[.int .u64 ((x*y / 18446744073709551616:Nat):Int),.int .u64 ((x*y % 18446744073709551616:Nat):Int)])∧w'=w:=Any.bits_Mul64 Tryz.lays264 x y hx hy w
end Go.Proofs
namespace Go.Proofs.YtmihnoagagbgaaaGreat
open Tryz
open Go.RowKit Go.ChangeShapes Go.WideShapes
theorem satSize_any (a:Int) (w:World) (ha:InK .i64 a):Calls prog 110 #[.int .i64 a] w fun e w'=>e=.returned (.int .u64 (a.natAbs:Int))∧w=w':=by
 rw [ah] at ha
 obtain ⟨a1,a2⟩:=ha
 by_cases h:a < 0
 ·go_in
  go_wp2
  go_ret
  exact ⟨da (by simp only [IntKind.wrap_u64];omega),rfl⟩
 ·go_in
  go_wp2
  go_ret
  exact ⟨da oM,rfl⟩
def satEnd (p:Int):Ending:=if InK .i64 p then .returned (.tuple #[.int .i64 p,.bool true]) else .returned (.tuple #[.int .i64 0,.bool false])
theorem sat_bad {p:Int} (h:¬ InK .i64 p):Ending.returned (.tuple #[.int .i64 0,.bool false])=satEnd p:=by unfold satEnd;rw [if_neg h]
theorem sat_ok {v p:Int} (h:v=p) (hk:InK .i64 p):Ending.returned (.tuple #[.int .i64 v,.bool true])=satEnd p:=by unfold satEnd;rw [if_pos hk,h]
theorem satTimes_any (a b:Int) (w:World) (ha:InK .i64 a) (hb:InK .i64 b) :
  Calls prog 72 #[.int .i64 a,.int .i64 b] w fun e w' =>
   e=satEnd (a*b)∧w=w':=by
 have HA:=zH ha
 have HB:=zH hb
 rw [ah] at ha hb
 obtain ⟨a1,a2⟩:=ha
 obtain ⟨b1,b2⟩:=hb
 obtain ⟨x,hx⟩:∃ x:Nat,x=a.natAbs:=⟨_,rfl⟩
 obtain ⟨y,hy⟩:∃ y:Nat,y=b.natAbs:=⟨_,rfl⟩
 have hx1:x < 18446744073709551616:=oM
 have hy1:y < 18446744073709551616:=oM
 obtain ⟨hi,hhi⟩:∃ hi:Nat,hi=x*y / 18446744073709551616:=⟨_,rfl⟩
 obtain ⟨lo,hlo⟩:∃ lo:Nat,lo=x*y % 18446744073709551616:=⟨_,rfl⟩
 have hab:(a*b).natAbs=x*y:=by rw [Int.natAbs_mul,hx,hy]
 have hsg:(a < 0∧b < 0 ∨ 0≤a∧0≤b) → 0≤a*b:=by
  rintro (⟨h,h'⟩|⟨h,h'⟩)
  ·exact Int.le_of_lt (Int.mul_pos_of_neg_of_neg h h')
  ·exact Int.mul_nonneg oM oM
 have hsg2:(a < 0∧0≤b ∨ 0≤a∧b < 0) → a*b≤0:=by
  rintro (⟨h,h'⟩|⟨h,h'⟩)
  ·exact Int.mul_nonpos_of_nonpos_of_nonneg oM oM
  ·exact Int.mul_nonpos_of_nonneg_of_nonpos oM oM
 generalize hp:a*b=p at *
 generalize hq:x*y=q at *
 have HHI:=zH hhi
 have HLO:=zH hlo
 have HX:=zH hx
 have HY:=zH hy
 have HP:=zH hp
 have HQ:=zH hq
 have HAB:=zH hab
 have HS:=zH hsg
 have HS2:=zH hsg2
 clear hhi hlo hx hy hp hq hab hsg hsg2
 go_in
 go_wp2_with fail
 refine (satSize_any a _ HA.o).mono ?_
 rintro e w1 ⟨rfl,rfl⟩
 go_wp2_with fail
 refine (satSize_any b _ HB.o).mono ?_
 rintro e w1 ⟨rfl,rfl⟩
 rw [← HX.o,← HY.o]
 go_wp2_with fail
 refine (Tryz.bits_Mul64 x y hx1 hy1 _).mono ?_
 rintro e w1 ⟨rfl,rfl⟩
 rw [HQ.o,← HHI.o,← HLO.o]
 by_cases s1:a < 0
 ·by_cases s2:b < 0
  ·have sg:=HS.o (.inl ⟨by omega,by omega⟩)
   have SG:=zH sg
   have t1:decide (a < 0)=true:=by simp;omega
   have t2:decide (b < 0)=true:=by simp;omega
   clear sg
   go_wp2_with fail
   all_goals
    go_ret2
    have k1:=HHI.o
    have k2:=HLO.o
    have k3:=HAB.o
    have k4:=SG.o
    first
     | (refine ⟨sat_bad ?_,rfl⟩;rw [ah];omega;done)
     | (refine ⟨sat_ok ?_ ?_,rfl⟩;((try simp only [IntKind.wrap_u64,IntKind.wrap_i64,wrap64]);omega);rw [ah];omega;done)
  ·have sg:=HS2.o (.inl ⟨by omega,by omega⟩)
   have SG:=zH sg
   have t1:decide (a < 0)=true:=by simp;omega
   have t2:decide (b < 0)=false:=by simp;omega
   clear sg
   go_wp2_with fail
   all_goals
    go_ret2
    have k1:=HHI.o
    have k2:=HLO.o
    have k3:=HAB.o
    have k4:=SG.o
    first
     | (refine ⟨sat_bad ?_,rfl⟩;rw [ah];omega;done)
     | (refine ⟨sat_ok ?_ ?_,rfl⟩;((try simp only [IntKind.wrap_u64,IntKind.wrap_i64,wrap64]);omega);rw [ah];omega;done)
 ·by_cases s2:b < 0
  ·have sg:=HS2.o (.inr ⟨by omega,by omega⟩)
   have SG:=zH sg
   have t1:decide (a < 0)=false:=by simp;omega
   have t2:decide (b < 0)=true:=by simp;omega
   clear sg
   go_wp2_with fail
   all_goals
    go_ret2
    have k1:=HHI.o
    have k2:=HLO.o
    have k3:=HAB.o
    have k4:=SG.o
    first
     | (refine ⟨sat_bad ?_,rfl⟩;rw [ah];omega;done)
     | (refine ⟨sat_ok ?_ ?_,rfl⟩;((try simp only [IntKind.wrap_u64,IntKind.wrap_i64,wrap64]);omega);rw [ah];omega;done)
  ·have sg:=HS.o (.inr ⟨by omega,by omega⟩)
   have SG:=zH sg
   have t1:decide (a < 0)=false:=by simp;omega
   have t2:decide (b < 0)=false:=by simp;omega
   clear sg
   go_wp2_with fail
   all_goals
    go_ret2
    have k1:=HHI.o
    have k2:=HLO.o
    have k3:=HAB.o
    have k4:=SG.o
    first
     | (refine ⟨sat_bad ?_,rfl⟩;rw [ah];omega;done)
     | (refine ⟨sat_ok ?_ ?_,rfl⟩;((try simp only [IntKind.wrap_u64,IntKind.wrap_i64,wrap64]);omega);rw [ah];omega;done)
end Go.Proofs.YtmihnoagagbgaaaGreat
namespace Go.Proofs.YtmihnoagagbgaaaGreat
open Go.RowKit Go.ChangeShapes Go.WideShapes Tryz
set_option maxRecDepth 100000
set_option maxHeartbeats 16000000
def pre (l:List Int):Nat → Int
 | 0=>1
 | k+1=>pre l k*l.getD k 0
def lv (l:List Int) (k:Nat):Prop:=∀ j,j < k → 1≤l.getD j 0∧pre l (j+1)≤1024
def gO (l:List Int):Int:=if 1≤l.getD 0 0∧pre l 1≤1024∧1≤l.getD 1 0∧pre l 2≤1024∧1≤l.getD 2 0∧pre l 3≤1024 then pre l 3 else 0
theorem pP (l:List Int) (h:lv l 3):gO l=pre l 3:=by
 have h0:=h 0 oM
 have h1:=h 1 oM
 have h2:=h 2 oM
 unfold gO;rw [if_pos ⟨h0.1,h0.2,h1.1,h1.2,h2.1,h2.2⟩]
theorem rr (l:List Int) (k:Nat) (hk:k < 3) (h:¬ (1≤l.getD k 0∧pre l (k+1)≤1024)):gO l=0:=by
 unfold gO;rw [if_neg]
 rintro ⟨a,b,c,d,e,f⟩
 apply h
 match k,hk with
 | 0,_=>exact ⟨a,b⟩
 | 1,_=>exact ⟨c,d⟩
 | 2,_=>exact ⟨e,f⟩
theorem tq (l:List Int) (k:Nat) (h:lv l k):1≤pre l k∧pre l k≤1024:=by
 induction k with
 | zero=>exact ⟨by simp [pre],by simp [pre]⟩
 | succ k ih =>
  have h1:=ih (fun j hj=>h j oM)
  have h2:=h k oM
  refine ⟨?_,h2.2⟩
  have:0 < pre l k*l.getD k 0:=Int.mul_pos oM oM
  rw [pre];omega
def ab (h w c:Int):Int:=if 16 < h ∨ 16 < w then 0 else gO [h,w,c]
theorem bI (h w c:Int):ab h w c=if 1≤h∧h≤16∧1≤w∧w≤16∧1≤c∧c≤1024∧h*w*c≤1024 then h*w*c else 0:=by
 unfold ab
 by_cases h1:16 < h ∨ 16 < w
 ·rw [if_pos h1,if_neg oM]
 ·rw [if_neg h1]
  unfold gO
  simp only [pre,List.getD_cons_zero,List.getD_cons_succ,Int.one_mul]
  by_cases h2:1≤h∧h≤1024∧1≤w∧h*w≤1024∧1≤c∧h*w*c≤1024
  ·obtain ⟨a,b,d,e,f,g⟩:=h2
   have hm:1*c≤(h*w)*c:=Int.mul_le_mul_of_nonneg_right (by have:=Int.mul_pos (show 0 < h by omega) (show 0 < w by omega);omega) oM
   rw [if_pos ⟨a,b,d,e,f,g⟩,if_pos oM]
  ·rw [if_neg h2,if_neg]
   rintro ⟨a,b,d,e,f,g,i⟩
   apply h2
   have hm:h*w≤16*16:=Int.mul_le_mul b e oM oM
   omega
theorem aC (h w c:Int):0≤ab h w c∧ab h w c≤1024:=by
 rw [bI]
 split
 ·rename_i h1
  have:=Int.mul_pos (Int.mul_pos (show 0 < h by omega) (show 0 < w by omega)) (show 0 < c by omega)
  omega
 ·omega
theorem nW (l:List Int) (hl:l.length=3) (w:World) (h0:InK .i64 (l.getD 0 0)) (h1:InK .i64 (l.getD 1 0)) (h2:InK .i64 (l.getD 2 0)) :
  Calls prog 38 #[.agg (sN (l.getD 0 0) (l.getD 1 0) (l.getD 2 0))] w fun e w'=>e=.returned (.int .i64 (gO l))∧Below w w w':=by
 match l,hl with
 | [x,y,z],_ =>
 simp only [List.getD_cons_zero,List.getD_cons_succ] at h0 h1 h2 ⊢
 have hcell:∀ k,k < 3 → (w.alloc (.cells (sN x y z) 88)).cell? ⟨w.heap.size,k,none⟩=some (.int .i64 ([x,y,z].getD k 0))∧InK .i64 ([x,y,z].getD k 0):=by
  intro k hk
  match k,hk with
  | 0,_=>exact ⟨by simp [go_sem],h0⟩
  | 1,_=>exact ⟨by simp [go_sem],h1⟩
  | 2,_=>exact ⟨by simp [go_sem],h2⟩
 have HC:=zH hcell
 clear hcell h0 h1 h2
 go_in
 go_wp2_with fail
 go_loop [3,7] (fun n i=>∃ k:Nat,k≤3∧i=.int .i64 k∧n=.int .i64 (pre [x,y,z] k)∧lv [x,y,z] k) (fun _ i=>3 - (intOf i).toNat)
 case atStart=>exact ⟨0,zl _,rfl,rfl,fun j hj=>by omega⟩
 case round =>
  obtain ⟨k,hk,rfl,rfl,hok⟩:=hrel
  have hp:=tq _ k hok
  by_cases hlt:k < 3
  ·obtain ⟨c,ic⟩:=HC.o k hlt
   have hb:=rr [x,y,z] k hlt
   have hpre:pre [x,y,z] (k+1)=pre [x,y,z] k*[x,y,z].getD k 0:=rfl
   have hok':1≤[x,y,z].getD k 0 → pre [x,y,z] (k+1)≤1024 → lv [x,y,z] (k+1):=by
    intro a b j hj
    by_cases hjk:j < k
    ·exact hok j hjk
    ·obtain rfl:j=k:=oM
     exact ⟨a,b⟩
   generalize hq:pre [x,y,z] k=q at *
   generalize [x,y,z].getD k 0=v at *
   rw [hpre] at hb hok'
   have HB:=zH hb
   have HO:=zH hok'
   have HP:=zH hpre
   have IC:=zH ic
   clear hb hok' hpre ic hok hq
   have iv:=ah.1 IC.o
   go_wp2_with fail
   refine (satTimes_any q v _ (by rw [ah];omega) IC.o).mono ?_
   rintro e w' ⟨rfl,rfl⟩
   unfold satEnd
   by_cases hin:InK .i64 (q*v)
   ·rw [if_pos hin]
    have hin':=ah.1 hin
    have HIN:=zH hin
    clear hin
    generalize hqv:q*v=p at *
    have HQ:=zH hqv
    clear hqv
    by_cases t1:v < 1
    ·go_wp2
     go_ret
     exact ⟨da (HB.o oM).symm,by go_grown⟩
    ·by_cases t2:1024 < p
     ·go_wp2
      go_ret
      exact ⟨da (HB.o oM).symm,by go_grown⟩
     ·go_wp2
      exact ⟨⟨k+1,by omega,by go_num,by rw [HP.o],HO.o oM oM⟩,by simp [intOf];omega⟩
   ·rw [if_neg hin]
    have hbad:¬ (1≤v∧q*v≤1024):=by
     rintro ⟨a,b⟩
     apply hin
     rw [ah]
     have:=Int.mul_pos (show 0 < q by omega) (show 0 < v by omega)
     omega
    have HBAD:=zH hbad
    clear hin hbad
    go_wp2
    go_ret
    exact ⟨da (HB.o HBAD.o).symm,by go_grown⟩
  ·obtain rfl:k=3:=oM
   have e:=pP _ hok
   have E:=zH e
   clear e
   go_wp2
   go_ret
   exact ⟨da E.o.symm,by go_grown⟩
theorem bQ (h c:Int) (v:Int) (w:World) (h0:InK .i64 h) (h1:InK .i64 v) (h2:InK .i64 c) :
  Calls prog 20 #[.agg (sN h v c)] w fun e w'=>e=.returned (.int .i64 (ab h v c))∧Below w w w':=by
 have H0:=zH h0
 have H1:=zH h1
 have H2:=zH h2
 clear h0 h1 h2
 by_cases c1:16 < h
 ·go_in
  go_wp2
  go_ret
  exact ⟨da (by unfold ab;rw [if_pos oM]),by go_grown⟩
 ·by_cases c2:16 < v
  ·go_in
   go_wp2
   go_ret
   exact ⟨da (by unfold ab;rw [if_pos oM]),by go_grown⟩
  ·go_in
   go_wp2_with fail
   refine qM (nW [h,v,c] rfl _ H0.o H1.o H2.o) fun w' hb=>?_
   go_wp2
   go_ret
   exact ⟨da (by unfold ab;rw [if_neg oM]),((qB _ _).alloc (lR _) _).trans (hb.mono sM)⟩
theorem aQ (h c:Int) (v:Int) (w:World) (h0:InK .i64 h) (h1:InK .i64 v) (h2:InK .i64 c) :
  Calls prog 25 #[.agg (sN h v c)] w fun e w'=>e=.returned (.int .i64 (ab h v c))∧Below w w w':=by
 rw [bI]
 by_cases hg:1≤h∧h≤16∧1≤v∧v≤16∧1≤c∧c≤1024
 ·obtain ⟨a1,a2,a3,a4,a5,a6⟩:=hg
  have p1:0≤h*v∧h*v≤256:=⟨Int.mul_nonneg oM oM,Int.mul_le_mul a2 a4 oM oM⟩
  have p2:0≤h*v*c∧h*v*c≤256*1024:=⟨Int.mul_nonneg oM oM,Int.mul_le_mul p1.2 a6 oM oM⟩
  by_cases hs:h*v*c≤1024
  ·rw [if_pos ⟨a1,a2,a3,a4,a5,a6,hs⟩]
   go_in
   go_wp2
   go_ret
   exact ⟨rfl,by go_grown⟩
  ·rw [if_neg oM]
   go_in
   go_wp2
   go_ret
   exact ⟨rfl,by go_grown⟩
 ·rw [if_neg oM]
  by_cases a1:1≤h
  rotate_left
  ·go_in
   go_wp2
   go_ret
   exact ⟨rfl,by go_grown⟩
  by_cases a2:h≤16
  rotate_left
  ·go_in
   go_wp2
   go_ret
   exact ⟨rfl,by go_grown⟩
  by_cases a3:1≤v
  rotate_left
  ·go_in
   go_wp2
   go_ret
   exact ⟨rfl,by go_grown⟩
  by_cases a4:v≤16
  rotate_left
  ·go_in
   go_wp2
   go_ret
   exact ⟨rfl,by go_grown⟩
  by_cases a5:1≤c
  rotate_left
  ·go_in
   go_wp2
   go_ret
   exact ⟨rfl,by go_grown⟩
  have a6:¬ c≤1024:=oM
  clear hg
  go_in
  go_wp2
  go_ret
  exact ⟨rfl,by go_grown⟩
theorem aP (h c:Int) (v:Int) (w:World) (h0:InK .i64 h) (h1:InK .i64 v) (h2:InK .i64 c) :
  Calls prog 36 #[.agg (sN h v c)] w fun e w'=>e=.returned (.bool (decide (0 < ab h v c)))∧Below w w w':=by
 have H0:=zH h0
 have H1:=zH h1
 have H2:=zH h2
 clear h0 h1 h2
 go_in
 go_wp2_with fail
 refine qM (bQ h c v _ H0.o H1.o H2.o) fun w' hb=>?_
 go_wp2
 go_ret
 exact ⟨rfl,((qB _ _).alloc (lR _) _).trans (hb.mono sM)⟩
/-! ### Tensors -/
end Go.Proofs.YtmihnoagagbgaaaGreat
