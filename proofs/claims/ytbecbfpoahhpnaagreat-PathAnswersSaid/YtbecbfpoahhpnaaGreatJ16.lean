/- The shape that a node makes (layers 10, 17): conv.Shape, depth.Shape, the document's. -/
import Derived.Test.YtbecbfpoahhpnaaGreatJ01
import Derived.Shelf.SlSortCmp.WholeK
import Derived.Shelf.SlSortCmp.Insertion1
import Derived.Deep.DeepCutAuto
set_option linter.unusedVariables false
set_option linter.unusedSimpArgs false
set_option maxRecDepth 100000
set_option maxHeartbeats 16000000
namespace Go.Proofs.YtbecbfpoahhpnaaGreat
open Go.RowKit Go.ChangeShapes Go.WideShapes Tryz
theorem eh (h v c:Int) (d:af) (W:QA) (nw cw:Nat) (B:QA) (nb cb:Nat) (w:World) (h0:InK .i64 h) (h1:InK .i64 v) (h2:InK .i64 c) (I:InK .i64 d.out) (X:nw=d.w.length) (V:nb=d.bias.length) (mw:nw≤1048576) (mb:nb≤1048576) :
  Calls prog 139 #[.agg (sN h v c),.agg (nD d W nw cw B nb cb)] w fun e w'=>e=aY (bq h v c d)∧Below w w w':=by
 obtain ⟨r,N⟩:∃ r,bq h v c d=r:=⟨_,rfl⟩;rw [N];unfold bq gI at N;rw [← X,← V] at N;obtain ⟨OK,SL⟩:=zh2 (eD (h:=h) (v:=v) (c:=c) (k:=d.k) (s:=d.s) (p:=d.p) (o:=d.out)) (fun w=>fG h v c d.k d.s d.p d.out w h0 h1 h2 I);obtain ⟨⟨⟨J,K,L⟩,xe⟩,hx⟩:∃ x,aH h v c d.k d.s d.p d.out=x:=⟨_,rfl⟩;rw [hx] at N OK SL;simp only [aY] at SL;have U:=zH N.symm;clear hx N h0 h1 h2 I X V;have j:=zW w;obtain ⟨w1,w2,w3,ah,ad,al,l1,l2,_,y,q,z,Z⟩:=bk3 w (sN h v c) 23 (nD d W nw cw B nb cb) 84 (sN 0 0 0) 23;replace j:=zF Z j;clear Z;have M:=y.o.cell 2;obtain ⟨O,n4,n5,P⟩:=uc4 q 3 4 5 6;go_in
 go_wp2_with (refine lG y.o ?_)
 clear ah ad al M O n4 n5 P;refine qM (SL.o _) fun w4 hb=>?_;obtain ⟨j,y,q,z⟩:=uz4 hb j y q z;clear hb;have l3:w2.heap.size < w4.heap.size:=z.o.lt;obtain ⟨w5,ac,T,an⟩:=nB w4 (sN 0 0 0) 23;obtain ⟨j,y,q,z⟩:=uz4 an j y q z;clear an;clear SL;by_cases F:xe=0;rotate_left
 ·have tx:(xe != 0)=true:=by simpa using F
  have R:=zH (show r=noS xe by rw [U.o,if_pos F]);clear F U OK
  go_wp2_with (first
   | (refine sG (sN J K L) T.o ?_;intro w6 g t;have M:=(zA t y).o.cell 2;obtain ⟨O,P,n9,G⟩:=uc4 (zA t q) 3 6 9 10;have i:=zA t z;have f:=zA t j)
   | (refine sG (sN 0 0 0) i.o ?_;intro w7 l A))
  refine rG l ?_;exact ⟨by rw [R.o];rfl,(f.o.away A oM).out⟩
 subst F;have tx:((0:Int) != 0)=false:=rfl;have ok:=OK.o rfl;obtain ⟨m1,C⟩:∃ m,d.out*d.k=m:=⟨_,rfl⟩;have b1:=et (a:=d.out) (b:=d.k) (m:=1024) (n:=5) oM oM oM oM oM;rw [C] at b1;obtain ⟨m2,D⟩:∃ m,m1*d.k=m:=⟨_,rfl⟩;have b2:=et (a:=m1) (b:=d.k) (m:=1024*5) (n:=5) oM oM oM oM oM;rw [D] at b2;obtain ⟨Y,E⟩:∃ m,m2*c=m:=⟨_,rfl⟩;have b3:=et (a:=m2) (b:=c) (m:=1024*5*5) (n:=1024) oM oM oM oM oM;rw [E] at b3;have e1:IntKind.i64.wrap (d.out*d.k)=m1:=by rw [C];exact wJ
 have e2:IntKind.i64.wrap (m1*d.k)=m2:=by rw [D];exact wJ
 have e3:IntKind.i64.wrap (m2*c)=Y:=by rw [E];exact wJ
 rw [C,D,E] at U;clear C D E b1 b2 b3 ok OK;have H:=zH (show r=(if ¬ (nw:Int)=Y ∨ 16384 < nw ∨ ¬ (nb:Int)=d.out then noS 9 else ((J,K,L),0)) from U.o);clear U;by_cases Q:(nw:Int)=Y;rotate_left
 ·have t1:((nw:Int) != Y)=true:=by simpa using Q
  have R:=zH (show r=noS 9 by rw [H.o,if_pos (.inl Q)]);clear H Q
  go_wp2_with (first
   | (refine sG (sN J K L) T.o ?_;intro w6 g t;have M:=(zA t y).o.cell 2;obtain ⟨O,P,n9,G⟩:=uc4 (zA t q) 3 6 9 10;have i:=zA t z;have f:=zA t j)
   | (refine sG (sN 0 0 0) i.o ?_;intro w7 l A))
  refine rG l ?_;exact ⟨by rw [R.o];rfl,(f.o.away A oM).out⟩
 have t1:((nw:Int) != Y)=false:=by simpa using Q
 have P1:=zH Q;clear Q;by_cases p2:16384 < nw
 ·have t2:decide (16384 < (nw:Int))=true:=sO;have R:=zH (show r=noS 9 by rw [H.o,if_pos (.inr (.inl p2))]);clear H p2
  go_wp2_with (first
   | (refine sG (sN J K L) T.o ?_;intro w6 g t;have M:=(zA t y).o.cell 2;obtain ⟨O,P,n9,G⟩:=uc4 (zA t q) 3 6 9 10;have i:=zA t z;have f:=zA t j)
   | (refine sG (sN 0 0 0) i.o ?_;intro w7 l A))
  refine rG l ?_;exact ⟨by rw [R.o];rfl,(f.o.away A oM).out⟩
 have t2:decide (16384 < (nw:Int))=false:=sO;have P2:=zH p2;clear p2;by_cases S:(nb:Int)=d.out;rotate_left
 ·have t3:((nb:Int) != d.out)=true:=by simpa using S
  have R:=zH (show r=noS 9 by rw [H.o,if_pos (.inr (.inr S))]);clear H S
  go_wp2_with (first
   | (refine sG (sN J K L) T.o ?_;intro w6 g t;have M:=(zA t y).o.cell 2;obtain ⟨O,P,n9,G⟩:=uc4 (zA t q) 3 6 9 10;have i:=zA t z;have f:=zA t j)
   | (refine sG (sN 0 0 0) i.o ?_;intro w7 l A))
  refine rG l ?_;exact ⟨by rw [R.o];rfl,(f.o.away A oM).out⟩
 have t3:((nb:Int) != d.out)=false:=by simpa using S
 have R:=zH (show r=((J,K,L),0) by rw [H.o,if_neg (by rintro (h|h|h);exact h P1.o;exact P2.o h;exact h S)]);clear H S
 go_wp2_with (first
  | (refine sG (sN J K L) T.o ?_;intro w6 g t;have M:=(zA t y).o.cell 2;obtain ⟨O,P,n9,G⟩:=uc4 (zA t q) 3 6 9 10;have i:=zA t z;have f:=zA t j)
  | (refine lG g ?_)
  | (refine sG (sN J K L) i.o ?_;intro w7 l A))
 refine rG l ?_;exact ⟨by rw [R.o];rfl,(f.o.away A oM).out⟩
end Go.Proofs.YtbecbfpoahhpnaaGreat
namespace Go.Proofs
open Tryz
open Go.Shelf
def Tryz.lSrt_ren:Go.Shelf.Ren:=⟨fun|6=>146|14=>178|15=>179|20=>203|21=>204|22=>205|23=>206|24=>207|25=>208|26=>209|27=>210|28=>211|29=>212|46=>231|47=>232|48=>233|49=>234|50=>235|57=>250|n=>n,fun|3=>3|4=>4|5=>5|9=>9|22=>208|24=>211|25=>243|39=>281|45=>302|46=>303|50=>238|53=>309|55=>275|66=>335|70=>339|76=>359|77=>64|n=>n,fun|n=>n⟩
theorem Tryz.lSrt:Go.Proofs.SlLaysF0.n6 prog Tryz.lSrt_ren:={
 mixed:=by kernel_rfl
 f6:=⟨Tryz.f146.name,by decide,func146.trans (congrArg some (by kernel_rfl))⟩
 f14:=⟨Tryz.f178.name,by decide,func178.trans (congrArg some (by kernel_rfl))⟩
 f15:=func179.trans (congrArg some (by kernel_rfl))
 f20:=⟨Tryz.f203.name,by decide,func203.trans (congrArg some (by kernel_rfl))⟩
 f21:=⟨Tryz.f204.name,by decide,func204.trans (congrArg some (by kernel_rfl))⟩
 f22:=⟨Tryz.f205.name,by decide,func205.trans (congrArg some (by kernel_rfl))⟩
 f23:=⟨Tryz.f206.name,by decide,func206.trans (congrArg some (by kernel_rfl))⟩
 f24:=⟨Tryz.f207.name,by decide,func207.trans (congrArg some (by kernel_rfl))⟩
 f25:=⟨Tryz.f208.name,by decide,func208.trans (congrArg some (by kernel_rfl))⟩
 f26:=⟨Tryz.f209.name,by decide,func209.trans (congrArg some (by kernel_rfl))⟩
 f27:=⟨Tryz.f210.name,by decide,func210.trans (congrArg some (by kernel_rfl))⟩
 f28:=func211.trans (congrArg some (by kernel_rfl))
 f29:=func212.trans (congrArg some (by kernel_rfl))
 f46:=⟨Tryz.f231.name,by decide,func231.trans (congrArg some (by kernel_rfl))⟩
 f47:=func232.trans (congrArg some (by kernel_rfl))
 f48:=func233.trans (congrArg some (by kernel_rfl))
 f49:=⟨Tryz.f234.name,by decide,func234.trans (congrArg some (by kernel_rfl))⟩
 f50:=⟨Tryz.f235.name,by decide,func235.trans (congrArg some (by kernel_rfl))⟩
 f57:=⟨Tryz.f250.name,by decide,func250.trans (congrArg some (by kernel_rfl))⟩
 t0:=underlying0
 a0:=Tryz.isAgg0
 z0:=Tryz.sizeOf0
 v0:=Tryz.zeroValue0
 t3:=underlying3
 a3:=Tryz.isAgg3
 z3:=Tryz.sizeOf3
 v3:=Tryz.zeroValue3
 t4:=underlying4
 a4:=Tryz.isAgg4
 z4:=Tryz.sizeOf4
 v4:=Tryz.zeroValue4
 t5:=underlying5
 a5:=Tryz.isAgg5
 z5:=Tryz.sizeOf5
 v5:=Tryz.zeroValue5
 t9:=underlying9
 a9:=Tryz.isAgg9
 z9:=Tryz.sizeOf9
 v9:=Tryz.zeroValue9
 t22:=underlying208
 a22:=Tryz.isAgg208
 z22:=Tryz.sizeOf208
 v22:=Tryz.zeroValue208
 t25:=underlying243
 a25:=Tryz.isAgg243
 z25:=Tryz.sizeOf243
 v25:=Tryz.zeroValue243
 t39:=underlying281
 a39:=Tryz.isAgg281
 z39:=Tryz.sizeOf281
 v39:=Tryz.zeroValue281
 t45:=underlying302
 a45:=Tryz.isAgg302
 z45:=Tryz.sizeOf302
 v45:=Tryz.zeroValue302
 t46:=underlying303
 a46:=Tryz.isAgg303
 z46:=Tryz.sizeOf303
 v46:=Tryz.zeroValue303
 t50:=underlying238
 a50:=Tryz.isAgg238
 z50:=Tryz.sizeOf238
 v50:=Tryz.zeroValue238
 t53:=underlying309
 a53:=Tryz.isAgg309
 z53:=Tryz.sizeOf309
 v53:=Tryz.zeroValue309
 t55:=underlying275
 a55:=Tryz.isAgg275
 z55:=Tryz.sizeOf275
 v55:=Tryz.zeroValue275
 t66:=underlying335
 a66:=Tryz.isAgg335
 z66:=Tryz.sizeOf335
 v66:=Tryz.zeroValue335
 t70:=underlying339
 a70:=Tryz.isAgg339
 z70:=Tryz.sizeOf339
 v70:=Tryz.zeroValue339
 t76:=underlying359
 a76:=Tryz.isAgg359
 z76:=Tryz.sizeOf359
 v76:=Tryz.zeroValue359
 t77:=underlying64
 a77:=Tryz.isAgg64
 z77:=Tryz.sizeOf64
 v77:=Tryz.zeroValue64 }
end Go.Proofs
namespace Go.Proofs
open Tryz
open Go.Shelf
def Tryz.lIns_ren:Go.Shelf.Ren:=⟨fun|20=>225|n=>n,fun|22=>58|24=>3|25=>242|3=>3|4=>4|0=>0|n=>n,fun|n=>n⟩
theorem Tryz.lIns:Go.Proofs.SlLaysF.n20 prog Tryz.lIns_ren:={
 mixed:=by kernel_rfl
 f20:=⟨Tryz.f225.name,by decide,func225.trans (congrArg some (by kernel_rfl))⟩
 t0:=underlying0
 a0:=Tryz.isAgg0
 z0:=Tryz.sizeOf0
 v0:=Tryz.zeroValue0
 t3:=underlying3
 a3:=Tryz.isAgg3
 z3:=Tryz.sizeOf3
 v3:=Tryz.zeroValue3
 t4:=underlying4
 a4:=Tryz.isAgg4
 z4:=Tryz.sizeOf4
 v4:=Tryz.zeroValue4
 t22:=underlying58
 a22:=Tryz.isAgg58
 z22:=Tryz.sizeOf58
 v22:=Tryz.zeroValue58
 a24:=Tryz.isAgg3
 z24:=Tryz.sizeOf3
 t25:=underlying242
 a25:=Tryz.isAgg242
 z25:=Tryz.sizeOf242
 v25:=Tryz.zeroValue242 }
end Go.Proofs
namespace Go.Proofs.YtbecbfpoahhpnaaGreat
open Tryz
open Go.RowKit Go.ChangeShapes Go.WideShapes Go.Shelf Go.Lib Go.Sort Go.Proofs.YtbecbfpoahhpnaaGreat.Sta
variable {α:Type} [Inhabited α]
theorem insertion_s (enc:α → Value) (s:α → α → Int) (g:Nat) (cb:Array Value) (t off i:Nat) (a:Array α) (w0:World)
  (h:∀ o w,(callFunc g o).run prog w=.ok (.enter g o) w) (n:CmpLays1 prog g cb enc s t off a.size w0) (R:Row1 enc w0 t off a) (r:a.size < 20)
  (S:SW enc w0 t off a w0) :
  Calls prog 225 #[.slice (some ⟨t,off,none⟩) a.size i,.int .i64 0,.int .i64 a.size,.func (.func g) #[] cb] w0 fun e w'=>e=.returned (.tuple #[])∧SW enc w0 t off (insertionSort (ltOf s) a 0 a.size) w' :=
 Any.insertionSortCmpFunc_s Tryz.lIns enc s g cb t off i 0 a.size a a w0 w0 h n R rfl S (zl _) (lR _) oM
theorem stable_s (enc:α → Value) (r:α → α → Int) (L:α → α → Bool) (p:Tr L) (y:As L) (g:Nat) (cb:Array Value) (t off h:Nat) (a:Array α) (w0:World)
  (l:∀ i w,(callFunc g i).run prog w=.ok (.enter g i) w) (n:CmpLays1 prog g cb enc r t off a.size w0) (R:Row1 enc w0 t off a) (d:a.size < 20)
  (S:SW enc w0 t off a w0) :
  Calls prog 197 #[.slice (some ⟨t,off,none⟩) a.size h,.int .i64 a.size,.func (.func g) #[] cb] w0 fun e w'=>e=.returned (.tuple #[])∧SW enc w0 t off (insertionSort (ltOf r) a 0 a.size) w':=by
 have s:=zH (insertion_s enc r g cb t off h a w0 l n R d S);obtain ⟨q,c⟩:∃ q:World → Prop,SW enc w0 t off (insertionSort (ltOf r) a 0 a.size)=q:=⟨_,rfl⟩;rw [c] at s ⊢;have b:decide ((20:Int)≤(a.size:Int))=false:=sO;have k:decide ((20:Int) < (a.size:Int))=false:=sO;clear S p y n l R c;go_in;go_wp2_with fail;refine wp_loop_rounds 1 ?_;rw [rounds_succ];go_wp2_with fail;refine s.o.mono ?_;rintro e v ⟨rfl,m⟩;have f:=zH m;clear m;go_wp2_with fail;refine wp_loop_rounds 1 ?_;rw [rounds_succ];go_wp2_with fail;refine bodyPost_end (results_none rfl _ _ _) rfl ?_;exact ⟨rfl,f.o⟩
theorem sortStable_s (enc:α → Value) (c:α → α → Int) (L:α → α → Bool) (j:Tr L) (v:As L) (g:Nat) (cb:Array Value) (i off l:Nat) (t:Array α) (w0:World)
  (y:∀ n w,(callFunc g n).run prog w=.ok (.enter g n) w) (r:CmpLays1 prog g cb enc c i off t.size w0) (R:Row1 enc w0 i off t) (f:t.size < 20)
  (k:∀ p q,p < q → q < t.size → Agree (ltOf c) L t[q]! t[p]!) :
  Calls prog 162 #[.slice (some ⟨i,off,none⟩) t.size l,.func (.func g) #[] cb] w0 fun e w'=>e=.returned (.tuple #[])∧∃ d,Sta.Loc L t 0 t.size d∧d.size=t.size∧SW enc w0 i off d w':=by
 have z:=zH (stable_s enc c L j v g cb i off l t w0 y r R f (SW.start R.hH));have m:=insertion_merged (lt:=ltOf c) j v (a:=0) (b:=t.size) (zl _) (lR _) (fun p q _ A B=>k p q A B);have x:=zH (fun (w':World) (s:SW enc w0 i off (insertionSort (ltOf c) t 0 t.size) w')=>show ∃ d,Sta.Loc L t 0 t.size d∧d.size=t.size∧SW enc w0 i off d w' from ⟨_,Loc.merged (List.Perm.refl _) m,m.perm.1,s⟩);clear k r y m R;go_in;go_wp2_with fail;refine z.o.mono ?_;rintro e C ⟨rfl,h⟩;have H:=zH (x.o C h);clear h;go_wp2_with fail;refine bodyPost_end (results_none rfl _ _ _) rfl ?_;exact ⟨rfl,H.o⟩
end Go.Proofs.YtbecbfpoahhpnaaGreat
