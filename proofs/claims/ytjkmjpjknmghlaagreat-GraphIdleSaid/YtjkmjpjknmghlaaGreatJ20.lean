/-
  Windows as rows (layer 12): slide.wide, slide.place.
-/
import Derived.Test.YtjkmjpjknmghlaaGreatJ15
set_option linter.unusedVariables false
set_option linter.unusedSimpArgs false
namespace Go.Proofs.YtjkmjpjknmghlaaGreat
open Go.RowKit Go.ChangeShapes Go.WideShapes Fx
set_option maxRecDepth 100000
set_option maxHeartbeats 4000000
theorem wide_any (H V C:Nat) (d:Node) (W:Option Addr) (nw cw:Nat) (B:Option Addr) (nb cb:Nat) (Ho Wo mo:Nat) (K:Nat) (w:World) (hk:d.k=K) (k1:K≤5) (hC:C≤1024) :
  Calls Tryz.prog 146 #[.agg #[.int .i64 H,.int .i64 V,.int .i64 C,.int .i64 d.kind,.int .i64 d.a,.int .i64 d.b,.int .i64 d.k,.int .i64 d.s,.int .i64 d.p,.int .i64 d.out,.int .i8 d.za,.int .i8 d.zb,.slice W nw cw,.slice B nb cb,.int .i32 d.qm,.int .i64 d.qs,.int .i8 d.qz,.int .i32 d.rm,.int .i64 d.rs,.int .i8 d.rz,.int .i8 d.lo,.int .i8 d.hi,.int .i64 Ho,.int .i64 Wo,.int .i64 mo]] w fun e w'=>e=.returned (.int .i64 ((K*K*C:Nat):Int))∧Below w.heap.size w w':=by
 have FR:=zH (Far.refl w)
 obtain ⟨w1,hw_w1,BS,k_w1⟩:=nB w #[.int .i64 H,.int .i64 V,.int .i64 C,.int .i64 d.kind,.int .i64 d.a,.int .i64 d.b,.int .i64 d.k,.int .i64 d.s,.int .i64 d.p,.int .i64 d.out,.int .i8 d.za,.int .i8 d.zb,.slice W nw cw,.slice B nb cb,.int .i32 d.qm,.int .i64 d.qs,.int .i8 d.qz,.int .i32 d.rm,.int .i64 d.rs,.int .i8 d.rz,.int .i8 d.lo,.int .i8 d.hi,.int .i64 Ho,.int .i64 Wo,.int .i64 mo] 187
 replace FR:=zH (FR.out.fut k_w1)
 clear k_w1
 have c2:=BS.out.cell 2
 have c6:=BS.out.cell 6
 simp only [gX] at c2 c6
 rw [hk] at c6
 obtain ⟨q1,e1⟩:∃ m,K*K=m:=⟨_,rfl⟩
 have j1:(K:Int)*(K:Int)=(q1:Int):=by rw [← e1];simp
 have b1:q1≤25:=by rw [← e1];exact Nat.mul_le_mul k1 k1
 rw [e1]
 obtain ⟨q2,e2⟩:∃ m,q1*C=m:=⟨_,rfl⟩
 have j2:(q1:Int)*(C:Int)=(q2:Int):=by rw [← e2];simp
 have b2:q2≤25*1024:=by rw [← e2];exact Nat.mul_le_mul b1 hC
 rw [e2]
 clear e1 e2 hk
 go_enter Tryz.func146,Tryz.ntmps146
 go_wp2_with fail
 go_ret
 exact ⟨rfl,FR.out.out⟩
theorem place_any (H V C:Nat) (d:Node) (W:Option Addr) (nw cw:Nat) (B:Option Addr) (nb cb:Nat) (Ho Wo mo:Nat) (K S P i k:Nat) (w:World) (hk:d.k=K) (hs:d.s=S) (hp:d.p=P) (k1:1≤K∧K≤5) (s1:S≤4) (p1:P≤4)
  (h1:1≤H∧H≤16) (v1:1≤V∧V≤16) (c1:1≤C∧C≤1024) (he:decide (0 < elems H V C)=true) (w1':1≤Wo∧Wo≤16) (hi:i≤1024) (hkk:k≤25600) :
  Calls Tryz.prog 148 #[.agg #[.int .i64 H,.int .i64 V,.int .i64 C,.int .i64 d.kind,.int .i64 d.a,.int .i64 d.b,.int .i64 d.k,.int .i64 d.s,.int .i64 d.p,.int .i64 d.out,.int .i8 d.za,.int .i8 d.zb,.slice W nw cw,.slice B nb cb,.int .i32 d.qm,.int .i64 d.qs,.int .i8 d.qz,.int .i32 d.rm,.int .i64 d.rs,.int .i8 d.rz,.int .i8 d.lo,.int .i8 d.hi,.int .i64 Ho,.int .i64 Wo,.int .i64 mo],.int .i64 i,.int .i64 k] w fun e w' =>
   e=.returned (.tuple #[.int .i64 (if inside H V ((i / Wo*S+k / C / K:Nat) - (P:Int)) ((i % Wo*S+k / C % K:Nat) - (P:Int)) then (placeV V C ((i / Wo*S+k / C / K:Nat) - (P:Int)) ((i % Wo*S+k / C % K:Nat) - (P:Int)) (k % C):Int) else 0),.bool (decide (inside H V ((i / Wo*S+k / C / K:Nat) - (P:Int)) ((i % Wo*S+k / C % K:Nat) - (P:Int))))])∧Below w.heap.size w w':=by
 have FR:=zH (Far.refl w)
 obtain ⟨w1,hw_w1,BS,k_w1⟩:=nB w #[.int .i64 H,.int .i64 V,.int .i64 C,.int .i64 d.kind,.int .i64 d.a,.int .i64 d.b,.int .i64 d.k,.int .i64 d.s,.int .i64 d.p,.int .i64 d.out,.int .i8 d.za,.int .i8 d.zb,.slice W nw cw,.slice B nb cb,.int .i32 d.qm,.int .i64 d.qs,.int .i8 d.qz,.int .i32 d.rm,.int .i64 d.rs,.int .i8 d.rz,.int .i8 d.lo,.int .i8 d.hi,.int .i64 Ho,.int .i64 Wo,.int .i64 mo] 187
 replace FR:=zH (FR.out.fut k_w1)
 clear k_w1
 have HK:=zH hk
 have HS:=zH hs
 have HP:=zH hp
 obtain ⟨kc,hkc⟩:∃ m,k % C=m:=⟨_,rfl⟩
 obtain ⟨ka,hka⟩:∃ m,k / C=m:=⟨_,rfl⟩
 obtain ⟨iy,hiy⟩:∃ m,i / Wo=m:=⟨_,rfl⟩
 obtain ⟨ix,hix⟩:∃ m,i % Wo=m:=⟨_,rfl⟩
 have kcl:kc < C:=by rw [← hkc];exact Nat.mod_lt _ (by omega)
 have kab:ka≤25600:=by rw [← hka];exact Nat.le_trans (Nat.div_le_self _ _) hkk
 have iyb:iy≤1024:=by rw [← hiy];exact Nat.le_trans (Nat.div_le_self _ _) hi
 have ixb:ix≤16:=by rw [← hix];exact Nat.le_trans (Nat.le_of_lt (Nat.mod_lt _ (by omega))) w1'.2
 rw [hkc,hka,hiy,hix]
 obtain ⟨ay,hay⟩:∃ m,ka / K=m:=⟨_,rfl⟩
 obtain ⟨ax,hax⟩:∃ m,ka % K=m:=⟨_,rfl⟩
 have ayb:ay≤25600:=by rw [← hay];exact Nat.le_trans (Nat.div_le_self _ _) kab
 have axb:ax≤5:=by rw [← hax];exact Nat.le_trans (Nat.le_of_lt (Nat.mod_lt _ (by omega))) k1.2
 rw [hay,hax]
 obtain ⟨ys,hys⟩:∃ m,iy*S=m:=⟨_,rfl⟩
 obtain ⟨xs,hxs⟩:∃ m,ix*S=m:=⟨_,rfl⟩
 have ysb:ys≤4096:=by rw [← hys];exact Nat.mul_le_mul iyb s1
 have xsb:xs≤64:=by rw [← hxs];exact Nat.mul_le_mul ixb s1
 have ysi:(iy:Int)*(S:Int)=(ys:Int):=by rw [← hys];simp
 have xsi:(ix:Int)*(S:Int)=(xs:Int):=by rw [← hxs];simp
 rw [hys,hxs]
 obtain ⟨yy,hyy⟩:∃ m:Int,((ys+ay:Nat):Int) - (P:Int)=m:=⟨_,rfl⟩
 obtain ⟨xx,hxx⟩:∃ m:Int,((xs+ax:Nat):Int) - (P:Int)=m:=⟨_,rfl⟩
 rw [hyy,hxx]
 have d1:(k:Int).tmod (C:Int)=(kc:Int):=by rw [← hkc,Int.tmod_eq_emod_of_nonneg (by omega)];simp
 have d2:(k:Int).tdiv (C:Int)=(ka:Int):=by rw [← hka,Int.tdiv_eq_ediv_of_nonneg (by omega)];simp
 have d3:(i:Int).tdiv (Wo:Int)=(iy:Int):=by rw [← hiy,Int.tdiv_eq_ediv_of_nonneg (by omega)];simp
 have d4:(i:Int).tmod (Wo:Int)=(ix:Int):=by rw [← hix,Int.tmod_eq_emod_of_nonneg (by omega)];simp
 have d5:(ka:Int).tdiv (K:Int)=(ay:Int):=by rw [← hay,Int.tdiv_eq_ediv_of_nonneg (by omega)];simp
 have d6:(ka:Int).tmod (K:Int)=(ax:Int):=by rw [← hax,Int.tmod_eq_emod_of_nonneg (by omega)];simp
 have z1:¬ C=0:=by omega
 have z2:¬ Wo=0:=by omega
 have z3:¬ K=0:=by omega
 have g1:IntKind.i64.wrap (kc:Int)=(kc:Int):=IntWalk.i64_in _ (by omega)
 have g2:IntKind.i64.wrap (ka:Int)=(ka:Int):=IntWalk.i64_in _ (by omega)
 have g3:IntKind.i64.wrap (iy:Int)=(iy:Int):=IntWalk.i64_in _ (by omega)
 have g4:IntKind.i64.wrap (ix:Int)=(ix:Int):=IntWalk.i64_in _ (by omega)
 have g5:IntKind.i64.wrap (ay:Int)=(ay:Int):=IntWalk.i64_in _ (by omega)
 have g6:IntKind.i64.wrap (ax:Int)=(ax:Int):=IntWalk.i64_in _ (by omega)
 have g7:IntKind.i64.wrap ((iy:Int)*(S:Int))=(ys:Int):=by rw [ysi];exact IntWalk.i64_in _ (by omega)
 have g8:IntKind.i64.wrap ((ix:Int)*(S:Int))=(xs:Int):=by rw [xsi];exact IntWalk.i64_in _ (by omega)
 have g9:IntKind.i64.wrap ((ys:Int)+(ay:Int))=(ys:Int)+(ay:Int):=IntWalk.i64_in _ (by omega)
 have g10:IntKind.i64.wrap ((xs:Int)+(ax:Int))=(xs:Int)+(ax:Int):=IntWalk.i64_in _ (by omega)
 have g11:IntKind.i64.wrap ((ys:Int)+(ay:Int) - (P:Int))=yy:=(IntWalk.i64_in _ (by omega)).trans (by rw [← hyy];simp)
 have g12:IntKind.i64.wrap ((xs:Int)+(ax:Int) - (P:Int))=xx:=(IntWalk.i64_in _ (by omega)).trans (by rw [← hxx];simp)
 have IX:=zH (fun wq=>shapeIndex_any H V C yy xx kc wq h1 v1 c1 he kcl)
 obtain ⟨ri,hri⟩:∃ r:Int,(if inside H V yy xx then (placeV V C yy xx kc:Int) else 0)=r:=⟨_,rfl⟩
 obtain ⟨rb,hrb⟩:∃ r,decide (inside H V yy xx)=r:=⟨_,rfl⟩
 rw [hri,hrb] at IX ⊢
 clear hri hrb hkc hka hiy hix hay hax hys hxs ysi xsi hyy hxx hk hs hp he
 have c2:=BS.out.cell 2
 simp only [gX] at c2
 go_enter Tryz.func148,Tryz.ntmps148
 go_wp2_with fail
 go_quiet (fail)
 obtain ⟨wa2,hwa⟩:∃ m,w1.drewN nq=m:=⟨_,rfl⟩
 have kd:Below w1.heap.size w1 wa2:=by rw [← hwa];exact below_drewN (Below.refl _ _) _
 replace FR:=zH (FR.out.fut kd)
 replace BS:=zH (BS.out.fut kd)
 clear c2 hw_w1
 have c6:=BS.out.cell 6
 have c7:=BS.out.cell 7
 have c8:=BS.out.cell 8
 have c23:=BS.out.cell 23
 simp only [gX] at c6 c7 c8 c23
 rw [HK.out] at c6
 rw [HS.out] at c7
 rw [HP.out] at c8
 rw [hwa]
 clear kd hwa
 go_wp2_with fail
 go_quiet (fail)
 obtain ⟨wa3,hwa⟩:∃ m,wa2.drewN nq=m:=⟨_,rfl⟩
 have kd:Below wa2.heap.size wa2 wa3:=by rw [← hwa];exact below_drewN (Below.refl _ _) _
 replace FR:=zH (FR.out.fut kd)
 replace BS:=zH (BS.out.fut kd)
 clear c6 c7 c8 c23
 have c6:=BS.out.cell 6
 have c7:=BS.out.cell 7
 have c8:=BS.out.cell 8
 have c23:=BS.out.cell 23
 simp only [gX] at c6 c7 c8 c23
 rw [HK.out] at c6
 rw [HS.out] at c7
 rw [HP.out] at c8
 rw [hwa]
 clear kd hwa
 go_wp2_with fail
 go_quiet (fail)
 obtain ⟨wa4,hwa⟩:∃ m,wa3.drewN nq=m:=⟨_,rfl⟩
 have kd:Below wa3.heap.size wa3 wa4:=by rw [← hwa];exact below_drewN (Below.refl _ _) _
 replace FR:=zH (FR.out.fut kd)
 replace BS:=zH (BS.out.fut kd)
 rw [hwa]
 clear kd hwa c6 c7 c8 c23
 go_wp2_with (first|(refine wpList_load_blk rfl 24 (.tmp 60) rfl w.heap.size 0 rfl _ #[.int .i64 H,.int .i64 V,.int .i64 C,.int .i64 d.kind,.int .i64 d.a,.int .i64 d.b,.int .i64 d.k,.int .i64 d.s,.int .i64 d.p,.int .i64 d.out,.int .i8 d.za,.int .i8 d.zb,.slice W nw cw,.slice B nb cb,.int .i32 d.qm,.int .i64 d.qs,.int .i8 d.qz,.int .i32 d.rm,.int .i64 d.rs,.int .i8 d.rz,.int .i8 d.lo,.int .i8 d.hi,.int .i64 Ho,.int .i64 Wo,.int .i64 mo] #[.int .i64 H,.int .i64 V,.int .i64 C] _ BS.out Tryz.underlying24 rfl (by kernel_rfl) rfl ?_)|(go_at_call 129;refine (IX.out _).mono ?_;rintro e w5 ⟨rfl,hb⟩))
 go_ret2
 exact ⟨rfl,(FR.out.fut hb).out⟩
end Go.Proofs.YtjkmjpjknmghlaaGreat
