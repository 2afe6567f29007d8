/-
  Two nodes compared (layer 25): kinds.same.
-/
import Derived.Test.YtppcjcigekoipaaGreatJ07
import Derived.Test.YtppcjcigekoipaaGreatJ08
set_option linter.unusedVariables false
set_option linter.unusedSimpArgs false
namespace Go.Proofs.YtppcjcigekoipaaGreat
open Go.RowKit Go.ChangeShapes Go.WideShapes
set_option maxRecDepth 100000
set_option maxHeartbeats 64000000 in
theorem same_bools (y8 y32 x8 x4 xq xr:Bool) (kind a b k s p out za zb qm qs qz rm rs rz lo hi:Int) (kind' a' b' k' s' p' out' za' zb' qm' qs' qz' rm' rs' rz' lo' hi':Int) (wl bl wl' bl':List Int) (W:Option Addr) (nw cw:Nat) (B:Option Addr) (nb cb:Nat) (W':Option Addr) (nw' cw':Nat) (B':Option Addr) (nb' cb':Nat) (w:World)
  (hw:Sl (tInt .i8) w (blo w.heap.size) W nw cw wl) (hb:Sl (tInt .i32) w (blo w.heap.size) B nb cb bl) (hw':Sl (tInt .i8) w (blo w.heap.size) W' nw' cw' wl') (hb':Sl (tInt .i32) w (blo w.heap.size) B' nb' cb' bl')
  (g8:decide (wl=wl')=y8) (g32:decide (bl=bl')=y32) (f8:([kind,a,b,k,s,p,out,0] == [kind',a',b',k',s',p',out',0])=x8) (f4:([za,zb,lo,hi] == [za',zb',lo',hi'])=x4) (fq:([qm,qs,qz] == [qm',qs',qz'])=xq) (fr:([rm,rs,rz] == [rm',rs',rz'])=xr) :
  Calls Tryz.prog 139 #[.agg (nN kind a b k s p out za zb W nw cw B nb cb qm qs qz rm rs rz lo hi),.agg (nN kind' a' b' k' s' p' out' za' zb' W' nw' cw' B' nb' cb' qm' qs' qz' rm' rs' rz' lo' hi')] w fun e w'=>e=.returned (.bool (y8 && y32 && x8 && x4 && xq && xr))∧Below w.heap.size w w':=by
 have FR:=zH (Far.refl w)
 have HW:=zH hw
 have HB:=zH hb
 have HW':=zH hw'
 have HB':=zH hb'
 have Q8:=zH (fun w=>run_eql_arr8 (P:=Tryz.prog) (t:=262) (e:=3) (k:=.i64) w Tryz.underlying262 Tryz.underlying3 (by kernel_rfl) (by kernel_rfl) kind a b k s p out 0 kind' a' b' k' s' p' out' 0)
 have Q4:=zH (fun w=>run_eql_arr4 (P:=Tryz.prog) (t:=263) (e:=83) (k:=.i8) w Tryz.underlying263 Tryz.underlying83 (by kernel_rfl) (by kernel_rfl) za zb lo hi za' zb' lo' hi')
 have QQ:=zH (fun w=>run_eql_st3 (P:=Tryz.prog) (t:=85) (k0:=.i32) (k1:=.i64) (k2:=.i8) w Tryz.underlying85 (by kernel_rfl) (by decide) ⟨rfl,rfl,rfl⟩ Tryz.underlying21 Tryz.underlying3 Tryz.underlying83 (by kernel_rfl) (by kernel_rfl) (by kernel_rfl) qm qs qz qm' qs' qz')
 have QR:=zH (fun w=>run_eql_st3 (P:=Tryz.prog) (t:=85) (k0:=.i32) (k1:=.i64) (k2:=.i8) w Tryz.underlying85 (by kernel_rfl) (by decide) ⟨rfl,rfl,rfl⟩ Tryz.underlying21 Tryz.underlying3 Tryz.underlying83 (by kernel_rfl) (by kernel_rfl) (by kernel_rfl) rm rs rz rm' rs' rz')
 clear hw hb hw' hb'
 obtain ⟨w1,hw_w1,BN,k_w1⟩:=nB w (nN kind a b k s p out za zb W nw cw B nb cb qm qs qz rm rs rz lo hi) 87
 replace FR:=zH (FR.out.fut k_w1)
 replace HW:=zH (HW.out.fut k_w1)
 replace HB:=zH (HB.out.fut k_w1)
 replace HW':=zH (HW'.out.fut k_w1)
 replace HB':=zH (HB'.out.fut k_w1)
 clear k_w1
 obtain ⟨w2,hw_w2,BM,k_w2⟩:=nB w1 (nN kind' a' b' k' s' p' out' za' zb' W' nw' cw' B' nb' cb' qm' qs' qz' rm' rs' rz' lo' hi') 87
 replace FR:=zH (FR.out.fut k_w2)
 replace HW:=zH (HW.out.fut k_w2)
 replace HB:=zH (HB.out.fut k_w2)
 replace HW':=zH (HW'.out.fut k_w2)
 replace HB':=zH (HB'.out.fut k_w2)
 replace BN:=zH (BN.out.fut k_w2)
 clear k_w2
 have E8:=zH (fun v (hb:Below w2.heap.size w2 v)=>equal8_any W W' nw cw nw' cw' wl wl' v (HW.out.fut hb) (HW'.out.fut hb))
 have E32:=zH (fun v (hb:Below w2.heap.size w2 v)=>equal32_any B B' nb cb nb' cb' bl bl' v (HB.out.fut hb) (HB'.out.fut hb))
 rw [g8] at E8
 rw [g32] at E32
 rw [f8] at Q8
 rw [f4] at Q4
 rw [fq] at QQ
 rw [fr] at QR
 clear g8 g32 f8 f4 fq fr HW HB HW' HB'

 have ways:(y8=false) ∨ (y8=true∧y32=false) ∨ (y8=true∧y32=true∧x8=false) ∨ (y8=true∧y32=true∧x8=true∧x4=false) ∨ (y8=true∧y32=true∧x8=true∧x4=true∧xq=false) ∨ (y8=true∧y32=true∧x8=true∧x4=true∧xq=true∧xr=false) ∨ (y8=true∧y32=true∧x8=true∧x4=true∧xq=true∧xr=true):=by cases y8 <;> cases y32 <;> cases x8 <;> cases x4 <;> cases xq <;> cases xr <;> simp
 rcases ways with rfl|⟨rfl,rfl⟩|⟨rfl,rfl,rfl⟩|⟨rfl,rfl,rfl,rfl⟩|⟨rfl,rfl,rfl,rfl,rfl⟩|⟨rfl,rfl,rfl,rfl,rfl,rfl⟩|⟨rfl,rfl,rfl,rfl,rfl,rfl⟩
 all_goals
  have cN9:=BN.out.cell 9
  have cM9:=BM.out.cell 9
  go_enter Tryz.func139,Tryz.ntmps139
  go_wp2_with fail
  refine (E8.out _ (Below.refl _ _)).mono ?_
  rintro e w3 ⟨rfl,b3⟩
  have K3:=zH b3
  replace FR:=zH (FR.out.fut b3)
  replace BN:=zH (BN.out.fut b3)
  replace BM:=zH (BM.out.fut b3)
  clear b3 cN9 cM9 hw_w1 hw_w2
  try (have cN10:=BN.out.cell 10;have cM10:=BM.out.cell 10;go_wp2_with fail;refine (E32.out _ K3.out).mono ?_;rintro e w4 ⟨rfl,b4⟩;replace FR:=zH (FR.out.fut b4);replace BN:=zH (BN.out.fut b4);replace BM:=zH (BM.out.fut b4);clear b4 cN10 cM10)
  clear K3 E8 E32
  have cN0:=BN.out.cell 0
  have cM0:=BM.out.cell 0
  have cN1:=BN.out.cell 1
  have cM1:=BM.out.cell 1
  have cN2:=BN.out.cell 2
  have cM2:=BM.out.cell 2
  have cN3:=BN.out.cell 3
  have cM3:=BM.out.cell 3
  have cN4:=BN.out.cell 4
  have cM4:=BM.out.cell 4
  have cN5:=BN.out.cell 5
  have cM5:=BM.out.cell 5
  have cN6:=BN.out.cell 6
  have cM6:=BM.out.cell 6
  have cN7:=BN.out.cell 7
  have cM7:=BM.out.cell 7
  have cN8:=BN.out.cell 8
  have cM8:=BM.out.cell 8
  have cN11:=BN.out.cell 11
  have cM11:=BM.out.cell 11
  have cN12:=BN.out.cell 12
  have cM12:=BM.out.cell 12
  have cN13:=BN.out.cell 13
  have cM13:=BM.out.cell 13
  have cN14:=BN.out.cell 14
  have cM14:=BM.out.cell 14
  have cN15:=BN.out.cell 15
  have cM15:=BM.out.cell 15
  have cN16:=BN.out.cell 16
  have cM16:=BM.out.cell 16
  have cN17:=BN.out.cell 17
  have cM17:=BM.out.cell 17
  have cN18:=BN.out.cell 18
  have cM18:=BM.out.cell 18
  go_wp2_with (first
   | (refine wpList_eql_agg 262 _ (.tmp 34) (.tmp 49) rfl _ _ rfl rfl (by rfl) (by kernel_rfl) _ (Q8.out _) ?_)
   | (refine wpList_eql_agg 263 _ (.tmp 59) (.tmp 68) rfl _ _ rfl rfl (by rfl) (by kernel_rfl) _ (Q4.out _) ?_)
   | (refine wpList_eql_agg 85 _ (.tmp 79) (.tmp 81) rfl _ _ rfl rfl (by rfl) (by kernel_rfl) _ (QQ.out _) ?_)
   | (refine wpList_eql_agg 85 _ (.tmp 86) (.tmp 88) rfl _ _ rfl rfl (by rfl) (by kernel_rfl) _ (QR.out _) ?_))
  go_ret
  exact ⟨rfl,FR.out.out⟩
end Go.Proofs.YtppcjcigekoipaaGreat
