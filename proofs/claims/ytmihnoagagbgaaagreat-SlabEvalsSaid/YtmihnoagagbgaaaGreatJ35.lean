/-
  Two nodes compared (layer 25): kinds.same.
-/
import Derived.Test.YtmihnoagagbgaaaGreatJ15
import Derived.Test.YtmihnoagagbgaaaGreatJ08
set_option linter.unusedVariables false
set_option linter.unusedSimpArgs false
set_option maxRecDepth 100000
set_option maxHeartbeats 16000000
namespace Go.Proofs.YtmihnoagagbgaaaGreat
open Go.RowKit Go.ChangeShapes Go.WideShapes Tryz
set_option maxRecDepth 100000
set_option maxHeartbeats 16000000
theorem jH (y8 y32 x8 x4 xq xr:Bool) (kind a b k s p out za zb qm qs qz rm rs rz lo hi:Int) (kind' a' b' k' s' p' out' za' zb' qm' qs' qz' rm' rs' rz' lo' hi':Int) (wl bl wl' bl':List Int) (W:QA) (nw cw:Nat) (B:QA) (nb cb:Nat) (W':QA) (nw' cw':Nat) (B':QA) (nb' cb':Nat) (w:World)
  (hw:xA w W nw cw wl) (hb:xB w B nb cb bl) (hw':xA w W' nw' cw' wl') (hb':xB w B' nb' cb' bl')
  (g8:decide (wl=wl')=y8) (g32:decide (bl=bl')=y32) (f8:([kind,a,b,k,s,p,out,0] == [kind',a',b',k',s',p',out',0])=x8) (f4:([za,zb,lo,hi] == [za',zb',lo',hi'])=x4) (fq:([qm,qs,qz] == [qm',qs',qz'])=xq) (fr:([rm,rs,rz] == [rm',rs',rz'])=xr) :
  Calls prog 78 #[.agg (nN kind a b k s p out za zb W nw cw B nb cb qm qs qz rm rs rz lo hi),.agg (nN kind' a' b' k' s' p' out' za' zb' W' nw' cw' B' nb' cb' qm' qs' qz' rm' rs' rz' lo' hi')] w fun e w'=>e=.returned (.bool (y8 && y32 && x8 && x4 && xq && xr))∧Below w w w':=by
 have FR:=zW w
 have HW:=zH hw
 have HB:=zH hb
 have HW':=zH hw'
 have HB':=zH hb'
 have Q8:=zH (fun w=>mO (P:=prog) (t:=159) (e:=3) (k:=.i64) w underlying159 underlying3 kM kM kind a b k s p out 0 kind' a' b' k' s' p' out' 0)
 have Q4:=zH (fun w=>mN (P:=prog) (t:=160) (e:=37) (k:=.i8) w underlying160 underlying37 kM kM za zb lo hi za' zb' lo' hi')
 have QQ:=zH (fun w=>gA (P:=prog) (t:=40) (k0:=.i32) (k1:=.i64) (k2:=.i8) w underlying40 kM dM ⟨rfl,rfl,rfl⟩ underlying21 underlying3 underlying37 kM kM kM qm qs qz qm' qs' qz')
 have QR:=zH (fun w=>gA (P:=prog) (t:=40) (k0:=.i32) (k1:=.i64) (k2:=.i8) w underlying40 kM dM ⟨rfl,rfl,rfl⟩ underlying21 underlying3 underlying37 kM kM kM rm rs rz rm' rs' rz')
 clear hw hb hw' hb'
 obtain ⟨w1,w2,yw1,yw2,_,_,BN,BM,yk2⟩:=bk2 w (nN kind a b k s p out za zb W nw cw B nb cb qm qs qz rm rs rz lo hi) 42 (nN kind' a' b' k' s' p' out' za' zb' W' nw' cw' B' nb' cb' qm' qs' qz' rm' rs' rz' lo' hi') 42
 obtain ⟨FR,HW,HB,HW',HB'⟩:=uz5 yk2 FR HW HB HW' HB'
 clear yk2
 have E8:=zH (fun v (hb:Below w2 w2 v)=>pj W W' nw cw nw' cw' wl wl' v (HW.o.fut hb) (HW'.o.fut hb))
 have E32:=zH (fun v (hb:Below w2 w2 v)=>np B B' nb cb nb' cb' bl bl' v (HB.o.fut hb) (HB'.o.fut hb))
 rw [g8] at E8
 rw [g32] at E32
 rw [f8] at Q8
 rw [f4] at Q4
 rw [fq] at QQ
 rw [fr] at QR
 clear g8 g32 f8 f4 fq fr HW HB HW' HB'

 have ways:(y8=false) ∨ (y8=true∧y32=false) ∨ (y8=true∧y32=true∧x8=false) ∨ (y8=true∧y32=true∧x8=true∧x4=false) ∨ (y8=true∧y32=true∧x8=true∧x4=true∧xq=false) ∨ (y8=true∧y32=true∧x8=true∧x4=true∧xq=true∧xr=false) ∨ (y8=true∧y32=true∧x8=true∧x4=true∧xq=true∧xr=true):=by cases y8 <;> cases y32 <;> cases x8 <;> cases x4 <;> cases xq <;> cases xr <;> simp
 rcases ways with rfl|⟨rfl,rfl⟩|⟨rfl,rfl,rfl⟩|⟨rfl,rfl,rfl,rfl⟩|⟨rfl,rfl,rfl,rfl,rfl⟩|⟨rfl,rfl,rfl,rfl,rfl,rfl⟩|⟨rfl,rfl,rfl,rfl,rfl,rfl⟩
 all_goals
  have cN9:=BN.o.cell 9
  have cM9:=BM.o.cell 9
  go_in
  go_wp2_with fail
  refine qM (E8.o _ (qB _ _)) fun w3 b3=>?_
  have K3:=zH b3
  obtain ⟨FR,BN,BM⟩:=uz3 b3 FR BN BM
  clear b3 cN9 cM9 yw1 yw2
  try (have cN10:=BN.o.cell 10;have cM10:=BM.o.cell 10;go_wp2_with fail;refine qM (E32.o _ K3.o) fun w4 b4=>?_;obtain ⟨FR,BN,BM⟩:=uz3 b4 FR BN BM;clear b4 cN10 cM10)
  clear K3 E8 E32
  have cN0:=BN.o.cell 0
  have cM0:=BM.o.cell 0
  have cN1:=BN.o.cell 1
  have cM1:=BM.o.cell 1
  have cN2:=BN.o.cell 2
  have cM2:=BM.o.cell 2
  have cN3:=BN.o.cell 3
  have cM3:=BM.o.cell 3
  have cN4:=BN.o.cell 4
  have cM4:=BM.o.cell 4
  have cN5:=BN.o.cell 5
  have cM5:=BM.o.cell 5
  have cN6:=BN.o.cell 6
  have cM6:=BM.o.cell 6
  have cN7:=BN.o.cell 7
  have cM7:=BM.o.cell 7
  have cN8:=BN.o.cell 8
  have cM8:=BM.o.cell 8
  have cN11:=BN.o.cell 11
  have cM11:=BM.o.cell 11
  have cN12:=BN.o.cell 12
  have cM12:=BM.o.cell 12
  have cN13:=BN.o.cell 13
  have cM13:=BM.o.cell 13
  have cN14:=BN.o.cell 14
  have cM14:=BM.o.cell 14
  have cN15:=BN.o.cell 15
  have cM15:=BM.o.cell 15
  have cN16:=BN.o.cell 16
  have cM16:=BM.o.cell 16
  have cN17:=BN.o.cell 17
  have cM17:=BM.o.cell 17
  have cN18:=BN.o.cell 18
  have cM18:=BM.o.cell 18
  go_wp2_with (first
   | (refine dV 159 _ (.tmp 34) (.tmp 49) rfl _ _ rfl rfl (by rfl) kM _ (Q8.o _) ?_)
   | (refine dV 160 _ (.tmp 59) (.tmp 68) rfl _ _ rfl rfl (by rfl) kM _ (Q4.o _) ?_)
   | (refine dV 40 _ (.tmp 79) (.tmp 81) rfl _ _ rfl rfl (by rfl) kM _ (QQ.o _) ?_)
   | (refine dV 40 _ (.tmp 86) (.tmp 88) rfl _ _ rfl rfl (by rfl) kM _ (QR.o _) ?_))
  go_ret
  exact ⟨rfl,FR.u⟩
end Go.Proofs.YtmihnoagagbgaaaGreat
