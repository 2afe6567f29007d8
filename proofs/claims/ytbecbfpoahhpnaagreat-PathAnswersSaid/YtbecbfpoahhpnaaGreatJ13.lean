/- Two nodes compared (layer 25): kinds.same. -/
import Derived.Test.YtbecbfpoahhpnaaGreatJ11
set_option linter.unusedVariables false
set_option linter.unusedSimpArgs false
set_option maxRecDepth 100000
set_option maxHeartbeats 16000000
namespace Go.Proofs.YtbecbfpoahhpnaaGreat
open Go.RowKit Go.ChangeShapes Go.WideShapes Tryz
theorem pD (c r K Q R Z:Bool) (d a b k s p out za zb qm qs qz rm rs rz lo hi:Int) (h a' b' k' s' p' l H I A C D E F G q j:Int) (wl bl O N:List Int) (W:QA) (nw cw:Nat) (B:QA) (nb cb:Nat) (W':QA) (z g:Nat) (B':QA) (x y:Nat) (w:World)
  (hw:xA w W nw cw wl) (J:xB w B nb cb bl) (X:xA w W' z g O) (V:xB w B' x y N)
  (g8:decide (wl=O)=c) (U:decide (bl=N)=r) (f8:([d,a,b,k,s,p,out,0] == [h,a',b',k',s',p',l,0])=K) (f4:([za,zb,lo,hi] == [H,I,q,j])=Q) (fq:([qm,qs,qz] == [A,C,D])=R) (fr:([rm,rs,rz] == [E,F,G])=Z) :
  Calls prog 135 #[.agg (nN d a b k s p out za zb W nw cw B nb cb qm qs qz rm rs rz lo hi),.agg (nN h a' b' k' s' p' l H I W' z g B' x y A C D E F G q j)] w fun e w'=>e=.returned (.bool (c && r && K && Q && R && Z))∧Below w w w':=by
 have M:=zW w;obtain ⟨HW,HB,f,m,Q8,Q4,QQ,QR⟩:=zh8 hw J X V (fun w=>uq (P:=prog) (t:=271) (e:=3) (k:=.i64) w underlying271 underlying3 kM kM d a b k s p out 0 h a' b' k' s' p' l 0) (fun w=>uo (P:=prog) (t:=272) (e:=80) (k:=.i8) w underlying272 underlying80 kM kM za zb lo hi H I q j) (fun w=>gg (P:=prog) (t:=82) (k0:=.i32) (k1:=.i64) (k2:=.i8) w underlying82 kM dM ⟨rfl,rfl,rfl⟩ underlying21 underlying3 underlying80 kM kM kM qm qs qz A C D) (fun w=>gg (P:=prog) (t:=82) (k0:=.i32) (k1:=.i64) (k2:=.i8) w underlying82 kM dM ⟨rfl,rfl,rfl⟩ underlying21 underlying3 underlying80 kM kM kM rm rs rz E F G);clear hw J X V;obtain ⟨w1,w2,al,ac,_,_,n,i,an⟩:=bk2 w (nN d a b k s p out za zb W nw cw B nb cb qm qs qz rm rs rz lo hi) 84 (nN h a' b' k' s' p' l H I W' z g B' x y A C D E F G q j) 84;obtain ⟨M,HW,HB,f,m⟩:=uz5 an M HW HB f m;clear an;obtain ⟨E8,L⟩:=zh2 (fun v (J:Below w2 w2 v)=>oR W W' nw cw z g wl O v (HW.o.fut J) (f.o.fut J)) (fun v (J:Below w2 w2 v)=>uW B B' nb cb x y bl N v (HB.o.fut J) (m.o.fut J));rw [g8] at E8;rw [U] at L;rw [f8] at Q8;rw [f4] at Q4;rw [fq] at QQ;rw [fr] at QR;clear g8 U f8 f4 fq fr HW HB f m

 have Y:(c=false) ∨ (c=true∧r=false) ∨ (c=true∧r=true∧K=false) ∨ (c=true∧r=true∧K=true∧Q=false) ∨ (c=true∧r=true∧K=true∧Q=true∧R=false) ∨ (c=true∧r=true∧K=true∧Q=true∧R=true∧Z=false) ∨ (c=true∧r=true∧K=true∧Q=true∧R=true∧Z=true):=by cases c <;> cases r <;> cases K <;> cases Q <;> cases R <;> cases Z <;> simp
 rcases Y with rfl|⟨rfl,rfl⟩|⟨rfl,rfl,rfl⟩|⟨rfl,rfl,rfl,rfl⟩|⟨rfl,rfl,rfl,rfl,rfl⟩|⟨rfl,rfl,rfl,rfl,rfl,rfl⟩|⟨rfl,rfl,rfl,rfl,rfl,rfl⟩;all_goals
  have ad:=n.o.cell 9;have ah:=i.o.cell 9;go_in;go_wp2_with fail;refine qM (E8.o _ (qB _ _)) fun w3 b3=>?_;have K3:=zH b3;obtain ⟨M,n,i⟩:=uz3 b3 M n i;clear b3 ad ah al ac;try (have T:=n.o.cell 10;have S:=i.o.cell 10;go_wp2_with fail;refine qM (L.o _ K3.o) fun w4 b4=>?_;obtain ⟨M,n,i⟩:=uz3 b4 M n i;clear b4 T S)
  clear K3 E8 L;have bR:=n.o.cell 0;have bx:=i.o.cell 0;have bT:=n.o.cell 1;have bz:=i.o.cell 1;have bW:=n.o.cell 2;have bA:=i.o.cell 2;have ce:=n.o.cell 3;have bB:=i.o.cell 3;have ct:=n.o.cell 4;have bD:=i.o.cell 4;have ca:=n.o.cell 5;have bH:=i.o.cell 5;have co:=n.o.cell 6;have bM:=i.o.cell 6;have ci:=n.o.cell 7;have bN:=i.o.cell 7;have cn:=n.o.cell 8;have bO:=i.o.cell 8;have bh:=n.o.cell 11;have ay:=i.o.cell 11;have br:=n.o.cell 12;have ax:=i.o.cell 12;have bd:=n.o.cell 13;have be:=i.o.cell 13;have bc:=n.o.cell 14;have bt:=i.o.cell 14;have bw:=n.o.cell 15;have ba:=i.o.cell 15;have bp:=n.o.cell 16;have bo:=i.o.cell 16;have bb:=n.o.cell 17;have bn:=i.o.cell 17;have bg:=n.o.cell 18;have bs:=i.o.cell 18
  go_wp2_with (first
   | (refine dI 271 _ (.tmp 34) (.tmp 49) rfl _ _ rfl rfl (by rfl) kM _ (Q8.o _) ?_)
   | (refine dI 272 _ (.tmp 59) (.tmp 68) rfl _ _ rfl rfl (by rfl) kM _ (Q4.o _) ?_)
   | (refine dI 82 _ (.tmp 79) (.tmp 81) rfl _ _ rfl rfl (by rfl) kM _ (QQ.o _) ?_)
   | (refine dI 82 _ (.tmp 86) (.tmp 88) rfl _ _ rfl rfl (by rfl) kM _ (QR.o _) ?_))
  go_ret;exact ⟨rfl,M.u⟩
end Go.Proofs.YtbecbfpoahhpnaaGreat
