/-
  What is wrong with a node (layer 25): kinds.Check, the document's Check.
-/
import Derived.Test.YtppcjcigekoipaaGreatJ18
import Derived.Test.YtppcjcigekoipaaGreatJ19
import Derived.Test.YtppcjcigekoipaaGreatJ20
import Derived.Test.YtppcjcigekoipaaGreatJ22
import Derived.Test.YtppcjcigekoipaaGreatJ23
set_option linter.unusedVariables false
set_option linter.unusedSimpArgs false
namespace Go.Proofs.YtppcjcigekoipaaGreat
open Go.RowKit Go.ChangeShapes Go.WideShapes
set_option maxRecDepth 100000
def plainN (d:Node):Node :=
 { kind:=d.kind,a:=d.a,b:=if d.kind=6 then d.b else 0,k:=if slidesK d.kind then d.k else 0,s:=if slidesK d.kind then d.s else 0,p:=if slidesK d.kind || decide (d.kind=8) then d.p else 0,out:=if d.kind=1 ∨ d.kind=3 then d.out else 0,za:=if scaledK d.kind || decide (d.kind=8) then d.za else 0,zb:=if d.kind=6 then d.zb else 0,w:=if sumsK d.kind then d.w else [],bias:=if sumsK d.kind then d.bias else [],qm:=if scaledK d.kind then d.qm else 0,qs:=if scaledK d.kind then d.qs else 0,qz:=if scaledK d.kind then d.qz else 0,rm:=if d.kind=6 then d.rm else 0,rs:=if d.kind=6 then d.rs else 0,rz:=0,lo:=if scaledK d.kind then d.lo else 0,hi:=if scaledK d.kind then d.hi else 0 }
theorem plain_any (d:Node) (W:Option Addr) (nw cw:Nat) (B:Option Addr) (nb cb:Nat) (w:World) (hk:kindOk d.kind) (hw:Sl (tInt .i8) w (blo w.heap.size) W nw cw d.w) (hb:Sl (tInt .i32) w (blo w.heap.size) B nb cb d.bias) (mw:nw≤1048576) (mb:nb≤1048576) :
  Calls Tryz.prog 140 #[.agg (nN d.kind d.a d.b d.k d.s d.p d.out d.za d.zb W nw cw B nb cb d.qm d.qs d.qz d.rm d.rs d.rz d.lo d.hi)] w (RetNode (plainN d) w):=by
 obtain ⟨kind,a,b,k,s,p,out,za,zb,wl,bl,qm,qs,qz,rm,rs,rz,lo,hi⟩:=d
 unfold kindOk at hk
 have hc:=kind_cases (k:=kind) ⟨by simp only at hk;omega,hk.2⟩
 simp only at hk hw hb ⊢
 rcases hc with rfl|rfl|rfl|rfl|rfl|rfl|rfl|rfl|rfl|rfl
 ·omega
 ·exact plain_1 a b k s p out za zb qm qs qz rm rs rz lo hi wl bl W nw cw B nb cb w hw hb mw mb
 ·exact plain_2 a b k s p out za zb qm qs qz rm rs rz lo hi wl bl W nw cw B nb cb w hw hb mw mb
 ·exact plain_3 a b k s p out za zb qm qs qz rm rs rz lo hi wl bl W nw cw B nb cb w hw hb mw mb
 ·exact plain_4 a b k s p out za zb qm qs qz rm rs rz lo hi wl bl W nw cw B nb cb w hw hb mw mb
 ·exact plain_5 a b k s p out za zb qm qs qz rm rs rz lo hi wl bl W nw cw B nb cb w hw hb mw mb
 ·exact plain_6 a b k s p out za zb qm qs qz rm rs rz lo hi wl bl W nw cw B nb cb w hw hb mw mb
 ·exact plain_7 a b k s p out za zb qm qs qz rm rs rz lo hi wl bl W nw cw B nb cb w hw hb mw mb
 ·exact plain_8 a b k s p out za zb qm qs qz rm rs rz lo hi wl bl W nw cw B nb cb w hw hb mw mb
 ·exact plain_9 a b k s p out za zb qm qs qz rm rs rz lo hi wl bl W nw cw B nb cb w hw hb mw mb
theorem nameOf_bad0 {k:Int} (h:k < 1 ∨ 9 < k):nameOf k=ByteArray.mk #[]:=by
 unfold nameOf
 rw [if_neg (by omega),if_neg (by omega),if_neg (by omega),if_neg (by omega),if_neg (by omega),if_neg (by omega),if_neg (by omega),if_neg (by omega),if_neg (by omega)]
theorem nameOf_empty (k:Int):(nameOf k).toList.isEmpty=!decide (kindOk k):=by
 by_cases h:kindOk k
 ·rw [decide_eq_true h]
  unfold kindOk at h
  have:=kind_cases ⟨by omega,h.2⟩
  rcases this with rfl|rfl|rfl|rfl|rfl|rfl|rfl|rfl|rfl|rfl
  ·omega
  all_goals (rw [ByteArray.toList_eq];rfl)
 ·rw [decide_eq_false h]
  unfold kindOk at h
  rw [nameOf_bad0 (by omega),ByteArray.toList_eq];rfl
set_option maxHeartbeats 8000000 in
theorem plain_same (d:Node) (hk:kindOk d.kind) :
  (decide (d.w=(plainN d).w) && decide (d.bias=(plainN d).bias) && ([d.kind,d.a,d.b,d.k,d.s,d.p,d.out,0] == [(plainN d).kind,(plainN d).a,(plainN d).b,(plainN d).k,(plainN d).s,(plainN d).p,(plainN d).out,0]) && ([d.za,d.zb,d.lo,d.hi] == [(plainN d).za,(plainN d).zb,(plainN d).lo,(plainN d).hi]) && ([d.qm,d.qs,d.qz] == [(plainN d).qm,(plainN d).qs,(plainN d).qz]) && ([d.rm,d.rs,d.rz] == [(plainN d).rm,(plainN d).rs,(plainN d).rz]))=!decide (moreP d):=by
 obtain ⟨kind,a,b,k,s,p,out,za,zb,wl,bl,qm,qs,qz,rm,rs,rz,lo,hi⟩:=d
 unfold kindOk at hk
 have hc:=kind_cases (k:=kind) ⟨by simp only at hk;omega,hk.2⟩
 simp only at hk
 rcases hc with rfl|rfl|rfl|rfl|rfl|rfl|rfl|rfl|rfl|rfl
 ·omega
 all_goals
  rw [Bool.eq_iff_iff]
  simp only [plainN,moreP,sumsK,slidesK,scaledK,Bool.and_eq_true,Bool.not_eq_true',decide_eq_true_eq,decide_eq_false_iff_not,beq_iff_eq,List.cons.injEq,and_true]
  by_cases h1:wl=[] <;> by_cases h2:bl=[] <;> simp [h1,h2] <;> omega
def checkV (d:Node):Int :=
 if ¬ kindOk d.kind then 6 else if moreP d then 2
 else if (scaledK d.kind=true∧quantOk d.qm d.qs=false) ∨ (d.kind=6∧quantOk d.rm d.rs=false) then 7
 else if scaledK d.kind=true∧d.hi < d.lo then 2 else 0
theorem more_any (d:Node) (W:Option Addr) (nw cw:Nat) (B:Option Addr) (nb cb:Nat) (w:World) (hk:kindOk d.kind) (hnw:nw=d.w.length) (hnb:nb=d.bias.length) (mw:nw≤maxLen) (mb:nb≤maxLen) :
  Calls Tryz.prog 77 #[.agg (nN d.kind d.a d.b d.k d.s d.p d.out d.za d.zb W nw cw B nb cb d.qm d.qs d.qz d.rm d.rs d.rz d.lo d.hi)] w fun e w'=>e=.returned (.bool (decide (moreP d)))∧Below w.heap.size w w':=by
 unfold kindOk at hk
 have hc:=kind_cases (k:=d.kind) ⟨by omega,hk.2⟩
 rcases hc with h|h|h|h|h|h|h|h|h|h
 ·omega
 ·exact more_1 d W nw cw B nb cb w h hnw hnb mw mb
 ·exact more_2 d W nw cw B nb cb w h hnw hnb mw mb
 ·exact more_3 d W nw cw B nb cb w h hnw hnb mw mb
 ·exact more_4 d W nw cw B nb cb w h hnw hnb mw mb
 ·exact more_5 d W nw cw B nb cb w h hnw hnb mw mb
 ·exact more_6 d W nw cw B nb cb w h hnw hnb mw mb
 ·exact more_7 d W nw cw B nb cb w h hnw hnb mw mb
 ·exact more_8 d W nw cw B nb cb w h hnw hnb mw mb
 ·exact more_9 d W nw cw B nb cb w h hnw hnb mw mb
theorem kinds_where {k:Int} (h:scaledK k=false):k ≠ 6:=by rintro rfl;cases h
set_option maxHeartbeats 8000000 in
theorem kcheck_any (d:Node) (W:Option Addr) (nw cw:Nat) (B:Option Addr) (nb cb:Nat) (w:World) (hw:Sl (tInt .i8) w (blo w.heap.size) W nw cw d.w) (hb:Sl (tInt .i32) w (blo w.heap.size) B nb cb d.bias) (mw:nw≤1048576) (mb:nb≤1048576) :
  Calls Tryz.prog 105 #[.agg (nN d.kind d.a d.b d.k d.s d.p d.out d.za d.zb W nw cw B nb cb d.qm d.qs d.qz d.rm d.rs d.rz d.lo d.hi)] w fun e w'=>e=.returned (.int .i64 (checkV d))∧Below w.heap.size w w':=by
 obtain ⟨r,hr⟩:∃ r,checkV d=r:=⟨_,rfl⟩
 rw [hr]
 unfold checkV at hr
 have V:=zH hr.symm
 clear hr
 have HW:=zH hw
 have HB:=zH hb
 clear hw hb
 have NM:=zH (fun w=>kname_any d.kind w)
 have SC:=zH (fun w=>scaledK_any d.kind w)
 have FQ:=zH (fun w=>fixRight_any d.qm d.qs d.qz w)
 have FQR:=zH (fun w=>fixRight_any d.rm d.rs d.rz w)
 have NT:=zH (nameOf_empty d.kind)
 have FR:=zH (Far.refl w)
 obtain ⟨w1,hw_w1,BN,k_w1⟩:=nB w (nN d.kind d.a d.b d.k d.s d.p d.out d.za d.zb W nw cw B nb cb d.qm d.qs d.qz d.rm d.rs d.rz d.lo d.hi) 87
 replace FR:=zH (FR.out.fut k_w1)
 replace HW:=zH (HW.out.fut k_w1)
 replace HB:=zH (HB.out.fut k_w1)
 clear k_w1
 have c0:=BN.out.cell 0
 obtain ⟨nm,hnm⟩:∃ x,nameOf d.kind=x:=⟨_,rfl⟩
 rw [hnm] at NM NT
 clear hnm
 have PL:=zH (fun w' (hk:kindOk d.kind) (hb:Below w1.heap.size w1 w')=>plain_any d W nw cw B nb cb w' hk (HW.out.fut hb) (HB.out.fut hb) mw mb)
 by_cases hk:kindOk d.kind
 rotate_left
 ·have tn:nm.toList.isEmpty=true:=by
   have:=NT.out
   rw [decide_eq_false hk] at this
   exact this
  have R:=zH (show r=6 by rw [V.out,if_pos hk])
  clear hk V NT
  go_enter Tryz.func105,Tryz.ntmps105
  go_wp2_with fail
  refine (NM.out _).mono ?_
  rintro e w2 ⟨rfl,hb⟩
  replace FR:=zH (FR.out.fut hb)
  clear hb
  clear c0 hw_w1
  go_wp2_with fail
  go_ret
  exact ⟨by rw [R.out];rfl,FR.out.out⟩
 have tn:nm.toList.isEmpty=false:=by
  have:=NT.out
  rw [decide_eq_true hk] at this
  exact this
 clear NT
 by_cases hm:moreP d
 ·have R:=zH (show r=2 by rw [V.out,if_neg (fun h=>h hk),if_pos hm])
  have PS:=zH (plain_same d hk)
  have dm:decide (moreP d)=true:=decide_eq_true hm
  rw [dm] at PS
  clear V hm dm
  go_enter Tryz.func105,Tryz.ntmps105
  go_wp2_with fail
  refine (NM.out _).mono ?_
  rintro e w2 ⟨rfl,hb⟩
  have K2:=zH hb
  replace FR:=zH (FR.out.fut hb)
  replace HW:=zH (HW.out.fut hb)
  replace HB:=zH (HB.out.fut hb)
  replace BN:=zH (BN.out.fut hb)
  clear hb
  clear c0 hw_w1
  go_wp2_with fail
  refine wp_region_held_drew (S:=fun w'=>Blk w' w.heap.size 87 (nN d.kind d.a d.b d.k d.s d.p d.out d.za d.zb W nw cw B nb cb d.qm d.qs d.qz d.rm d.rs d.rz d.lo d.hi)∧Below w2.heap.size w2 w') (by kernel_rfl) ?_ (fun hS=>?_)
  ·exact ⟨BN.out.drew,(Below.refl _ _).drew⟩
  refine tkH 0 rfl (yieldsIf_load_blk (by rfl) 87 (.tmp 1) rfl w.heap.size 0 rfl _ _ (nN d.kind d.a d.b d.k d.s d.p d.out d.za d.zb W nw cw B nb cb d.qm d.qs d.qz d.rm d.rs d.rz d.lo d.hi) _ (fun w hs=>hs.1) Tryz.underlying87 rfl (by kernel_rfl) rfl) hS ?_
  try simp only [pX]
  refine tkH 1 rfl (yieldsIf_load_blk (by rfl) 87 (.tmp 1) rfl w.heap.size 0 rfl _ _ (nN d.kind d.a d.b d.k d.s d.p d.out d.za d.zb W nw cw B nb cb d.qm d.qs d.qz d.rm d.rs d.rz d.lo d.hi) _ (fun w hs=>hs.1) Tryz.underlying87 rfl (by kernel_rfl) rfl) hS ?_
  try simp only [pX]
  refine rH 2 rfl (fun K hK=>?_)
  go_simp
  refine (PL.out _ hk (below_later (Below.refl _ _).drew K2.out)).mono ?_;rintro e w3 ⟨W1,n1,c1,B1,n2,c2,rfl,s1,s2,hb⟩;have S1:=zH s1;have S2:=zH s2;have K3:=zH (below_call (Below.refl _ _).drew hb (Nat.le_refl _));clear s1 s2
  refine hK.out _ _ ?_ (fun hS=>?_)
  ·exact ⟨(by first|exact cell_later hb hS.1|exact Blk.later hS.1 hb),below_later hb hS.2⟩
  clear hK K
  try simp only [pX]
  refine rH 3 rfl (fun K hK=>?_)
  go_simp
  refine (same_bools _ _ _ _ _ _ d.kind d.a d.b d.k d.s d.p d.out d.za d.zb d.qm d.qs d.qz d.rm d.rs d.rz d.lo d.hi _ _ _ _ _ _ _ _ _ _ _ _ _ _ _ _ _ d.w d.bias _ _ W nw cw B nb cb W1 n1 c1 B1 n2 c2 _ (HW.out.fut K3.out) (HB.out.fut K3.out) S1.out.old S2.out.old rfl rfl rfl rfl rfl rfl).mono ?_;rintro e w4 ⟨rfl,hb⟩;rw [PS.out]
  refine hK.out _ _ ?_ (fun hS=>?_)
  ·exact ⟨(by first|exact cell_later hb hS.1|exact Blk.later hS.1 hb),below_later hb hS.2⟩
  clear hK K
  try simp only [pX]
  refine kH 4 rfl hS ?_
  try simp only [pX]
  refine kH 5 rfl hS ?_
  try simp only [pX]
  refine wpAnyH_done (by kernel_rfl) ?_ _
  have hb:=hS.2
  replace FR:=zH (FR.out.fut hb)
  replace HW:=zH (HW.out.fut hb)
  replace HB:=zH (HB.out.fut hb)
  replace BN:=zH (BN.out.fut hb)
  clear hb
  clear hS S1 S2 K3
  go_wp2_with fail
  go_ret
  exact ⟨by rw [R.out];rfl,FR.out.out⟩
 have PS:=zH (plain_same d hk)
 have dm:decide (moreP d)=false:=decide_eq_false hm
 rw [dm] at PS
 have V2:=zH (show r=(if (scaledK d.kind=true∧quantOk d.qm d.qs=false) ∨ (d.kind=6∧quantOk d.rm d.rs=false) then 7 else if scaledK d.kind=true∧d.hi < d.lo then 2 else 0) by rw [V.out,if_neg (fun h=>h hk),if_neg hm])
 clear V hm dm
 go_enter Tryz.func105,Tryz.ntmps105
 go_wp2_with fail
 refine (NM.out _).mono ?_
 rintro e w2 ⟨rfl,hb⟩
 have K2:=zH hb
 replace FR:=zH (FR.out.fut hb)
 replace HW:=zH (HW.out.fut hb)
 replace HB:=zH (HB.out.fut hb)
 replace BN:=zH (BN.out.fut hb)
 clear hb
 clear c0 hw_w1
 go_wp2_with fail
 refine wp_region_held_drew (S:=fun w'=>Blk w' w.heap.size 87 (nN d.kind d.a d.b d.k d.s d.p d.out d.za d.zb W nw cw B nb cb d.qm d.qs d.qz d.rm d.rs d.rz d.lo d.hi)∧Below w2.heap.size w2 w') (by kernel_rfl) ?_ (fun hS=>?_)
 ·exact ⟨BN.out.drew,(Below.refl _ _).drew⟩
 refine tkH 0 rfl (yieldsIf_load_blk (by rfl) 87 (.tmp 1) rfl w.heap.size 0 rfl _ _ (nN d.kind d.a d.b d.k d.s d.p d.out d.za d.zb W nw cw B nb cb d.qm d.qs d.qz d.rm d.rs d.rz d.lo d.hi) _ (fun w hs=>hs.1) Tryz.underlying87 rfl (by kernel_rfl) rfl) hS ?_
 try simp only [pX]
 refine tkH 1 rfl (yieldsIf_load_blk (by rfl) 87 (.tmp 1) rfl w.heap.size 0 rfl _ _ (nN d.kind d.a d.b d.k d.s d.p d.out d.za d.zb W nw cw B nb cb d.qm d.qs d.qz d.rm d.rs d.rz d.lo d.hi) _ (fun w hs=>hs.1) Tryz.underlying87 rfl (by kernel_rfl) rfl) hS ?_
 try simp only [pX]
 refine rH 2 rfl (fun K hK=>?_)
 go_simp
 refine (PL.out _ hk (below_later (Below.refl _ _).drew K2.out)).mono ?_;rintro e w3 ⟨W1,n1,c1,B1,n2,c2,rfl,s1,s2,hb⟩;have S1:=zH s1;have S2:=zH s2;have K3:=zH (below_call (Below.refl _ _).drew hb (Nat.le_refl _));clear s1 s2
 refine hK.out _ _ ?_ (fun hS=>?_)
 ·exact ⟨(by first|exact cell_later hb hS.1|exact Blk.later hS.1 hb),below_later hb hS.2⟩
 clear hK K
 try simp only [pX]
 refine rH 3 rfl (fun K hK=>?_)
 go_simp
 refine (same_bools _ _ _ _ _ _ d.kind d.a d.b d.k d.s d.p d.out d.za d.zb d.qm d.qs d.qz d.rm d.rs d.rz d.lo d.hi _ _ _ _ _ _ _ _ _ _ _ _ _ _ _ _ _ d.w d.bias _ _ W nw cw B nb cb W1 n1 c1 B1 n2 c2 _ (HW.out.fut K3.out) (HB.out.fut K3.out) S1.out.old S2.out.old rfl rfl rfl rfl rfl rfl).mono ?_;rintro e w4 ⟨rfl,hb⟩;rw [PS.out]
 refine hK.out _ _ ?_ (fun hS=>?_)
 ·exact ⟨(by first|exact cell_later hb hS.1|exact Blk.later hS.1 hb),below_later hb hS.2⟩
 clear hK K
 try simp only [pX]
 refine kH 4 rfl hS ?_
 try simp only [pX]
 refine kH 5 rfl hS ?_
 try simp only [pX]
 refine wpAnyH_done (by kernel_rfl) ?_ _
 have hb:=hS.2
 replace FR:=zH (FR.out.fut hb)
 replace HW:=zH (HW.out.fut hb)
 replace HB:=zH (HB.out.fut hb)
 replace BN:=zH (BN.out.fut hb)
 clear hb
 clear hS S1 S2 K3
 clear K2 HW HB PL PS NM
 obtain ⟨sc,hsc⟩:∃ x,scaledK d.kind=x:=⟨_,rfl⟩
 obtain ⟨q,hq⟩:∃ x,quantOk d.qm d.qs=x:=⟨_,rfl⟩
 obtain ⟨qr,hqr⟩:∃ x,quantOk d.rm d.rs=x:=⟨_,rfl⟩
 have KW:=zH (kinds_where (k:=d.kind))
 rw [hsc] at SC V2 KW
 rw [hq] at FQ V2
 rw [hqr] at FQR V2
 clear hsc hq hqr hk tn
 have x0:=BN.out.cell 0
 have x11:=BN.out.cell 11
 have x12:=BN.out.cell 12
 have x13:=BN.out.cell 13
 have x14:=BN.out.cell 14
 have x15:=BN.out.cell 15
 have x16:=BN.out.cell 16
 have x17:=BN.out.cell 17
 have x18:=BN.out.cell 18
 cases sc
 case false =>
  have k6:=KW.out rfl
  have t6:(d.kind == 6)=false:=by simpa using k6
  have K6:=zH k6
  clear k6
  go_wp2_with (go_at_call 141;refine (SC.out _).mono ?_;rintro e w' ⟨rfl,rfl⟩)
  go_ret
  exact ⟨by rw [V2.out];simp [K6.out],FR.out.out⟩
 case true =>
  clear KW
  cases q
  case false =>
   go_wp2_with (go_at_call 141;refine (SC.out _).mono ?_;rintro e w' ⟨rfl,rfl⟩)
   refine (FQ.out _).mono ?_
   rintro e w5 ⟨rfl,hb⟩
   clear x0 x11 x12 x13 x14 x15 x16 x17 x18
   replace FR:=zH (FR.out.fut hb)
   clear hb
   go_wp2_with fail
   go_ret
   exact ⟨by rw [V2.out];simp,FR.out.out⟩
  case true =>
   go_wp2_with (go_at_call 141;refine (SC.out _).mono ?_;rintro e w' ⟨rfl,rfl⟩)
   refine (FQ.out _).mono ?_
   rintro e w5 ⟨rfl,hb⟩
   clear x0 x11 x12 x13 x14 x15 x16 x17 x18
   replace FR:=zH (FR.out.fut hb)
   replace BN:=zH (BN.out.fut hb)
   clear hb
   have x0:=BN.out.cell 0
   have x11:=BN.out.cell 11
   have x12:=BN.out.cell 12
   have x13:=BN.out.cell 13
   have x14:=BN.out.cell 14
   have x15:=BN.out.cell 15
   have x16:=BN.out.cell 16
   have x17:=BN.out.cell 17
   have x18:=BN.out.cell 18
   by_cases k6:d.kind=6
   ·have t6:(d.kind == 6)=true:=by simpa using k6
    have K6:=zH k6
    clear k6
    cases qr
    case false =>
     go_wp2_with fail
     refine (FQR.out _).mono ?_
     rintro e w6 ⟨rfl,hb⟩
     clear x0 x11 x12 x13 x14 x15 x16 x17 x18
     replace FR:=zH (FR.out.fut hb)
     clear hb
     go_wp2_with fail
     go_ret
     exact ⟨by rw [V2.out];simp [K6.out],FR.out.out⟩
    case true =>
     go_wp2_with fail
     refine (FQR.out _).mono ?_
     rintro e w6 ⟨rfl,hb⟩
     clear x0 x11 x12 x13 x14 x15 x16 x17 x18
     replace FR:=zH (FR.out.fut hb)
     replace BN:=zH (BN.out.fut hb)
     clear hb
     have x0:=BN.out.cell 0
     have x11:=BN.out.cell 11
     have x12:=BN.out.cell 12
     have x13:=BN.out.cell 13
     have x14:=BN.out.cell 14
     have x15:=BN.out.cell 15
     have x16:=BN.out.cell 16
     have x17:=BN.out.cell 17
     have x18:=BN.out.cell 18
     by_cases hl:d.hi < d.lo
     ·have tl:decide (d.hi < d.lo)=true:=decide_eq_true hl
      have HL:=zH hl
      clear hl
      go_wp2_with (go_at_call 141;refine (SC.out _).mono ?_;rintro e w' ⟨rfl,rfl⟩)
      go_ret
      exact ⟨by rw [V2.out];simp [HL.out,K6.out],FR.out.out⟩
     ·have tl:decide (d.hi < d.lo)=false:=decide_eq_false hl
      have HL:=zH hl
      clear hl
      go_wp2_with (go_at_call 141;refine (SC.out _).mono ?_;rintro e w' ⟨rfl,rfl⟩)
      go_ret
      exact ⟨by rw [V2.out];simp [HL.out,K6.out],FR.out.out⟩
   ·have t6:(d.kind == 6)=false:=by simpa using k6
    have K6:=zH k6
    clear k6
    by_cases hl:d.hi < d.lo
    ·have tl:decide (d.hi < d.lo)=true:=decide_eq_true hl
     have HL:=zH hl
     clear hl
     go_wp2_with (go_at_call 141;refine (SC.out _).mono ?_;rintro e w' ⟨rfl,rfl⟩)
     go_ret
     exact ⟨by rw [V2.out];simp [HL.out,K6.out],FR.out.out⟩
    ·have tl:decide (d.hi < d.lo)=false:=decide_eq_false hl
     have HL:=zH hl
     clear hl
     go_wp2_with (go_at_call 141;refine (SC.out _).mono ?_;rintro e w' ⟨rfl,rfl⟩)
     go_ret
     exact ⟨by rw [V2.out];simp [HL.out,K6.out],FR.out.out⟩
set_option maxHeartbeats 8000000 in
theorem rcheck_any (d:Node) (W:Option Addr) (nw cw:Nat) (B:Option Addr) (nb cb:Nat) (w:World) (hw:Sl (tInt .i8) w (blo w.heap.size) W nw cw d.w) (hb:Sl (tInt .i32) w (blo w.heap.size) B nb cb d.bias) (mw:nw≤1048576) (mb:nb≤1048576) :
  Calls Tryz.prog 49 #[.agg (nN d.kind d.a d.b d.k d.s d.p d.out d.za d.zb W nw cw B nb cb d.qm d.qs d.qz d.rm d.rs d.rz d.lo d.hi)] w fun e w'=>e=.returned (.int .i64 (checkV d))∧Below w.heap.size w w':=by
 obtain ⟨r,hr⟩:∃ r,checkV d=r:=⟨_,rfl⟩
 rw [hr]
 unfold checkV at hr
 have V:=zH hr.symm
 clear hr
 have HW:=zH hw
 have HB:=zH hb
 clear hw hb
 have NM:=zH (fun w=>rname_any d.kind w)
 have SC:=zH (fun w=>rscaled_any d.kind w)
 have FQ:=zH (fun w=>rfixRight_any d.qm d.qs d.qz w)
 have FQR:=zH (fun w=>rfixRight_any d.rm d.rs d.rz w)
 have NT:=zH (nameOf_empty d.kind)
 have FR:=zH (Far.refl w)
 obtain ⟨w1,hw_w1,BN,k_w1⟩:=nB w (nN d.kind d.a d.b d.k d.s d.p d.out d.za d.zb W nw cw B nb cb d.qm d.qs d.qz d.rm d.rs d.rz d.lo d.hi) 87
 replace FR:=zH (FR.out.fut k_w1)
 replace HW:=zH (HW.out.fut k_w1)
 replace HB:=zH (HB.out.fut k_w1)
 clear k_w1
 have c0:=BN.out.cell 0
 obtain ⟨nm,hnm⟩:∃ x,nameOf d.kind=x:=⟨_,rfl⟩
 rw [hnm] at NM NT
 clear hnm
 have MO:=zH (fun w' (hk:kindOk d.kind)=>more_any d W nw cw B nb cb w' hk HW.out.n_eq.symm HB.out.n_eq.symm (by unfold maxLen;omega) (by unfold maxLen;omega))
 by_cases hk:kindOk d.kind
 rotate_left
 ·have tn:nm.toList.isEmpty=true:=by
   have:=NT.out
   rw [decide_eq_false hk] at this
   exact this
  have R:=zH (show r=6 by rw [V.out,if_pos hk])
  clear hk V NT
  go_enter Tryz.func49,Tryz.ntmps49
  go_wp2_with fail
  refine (NM.out _).mono ?_
  rintro e w2 ⟨rfl,hb⟩
  replace FR:=zH (FR.out.fut hb)
  clear hb
  clear c0 hw_w1
  go_wp2_with fail
  go_ret
  exact ⟨by rw [R.out];rfl,FR.out.out⟩
 have tn:nm.toList.isEmpty=false:=by
  have:=NT.out
  rw [decide_eq_true hk] at this
  exact this
 clear NT
 by_cases hm:moreP d
 ·have R:=zH (show r=2 by rw [V.out,if_neg (fun h=>h hk),if_pos hm])
  have dm:decide (moreP d)=true:=decide_eq_true hm
  replace MO:=zH (fun w'=>MO.out w' hk)
  rw [dm] at MO
  clear V hm dm
  go_enter Tryz.func49,Tryz.ntmps49
  go_wp2_with fail
  refine (NM.out _).mono ?_
  rintro e w2 ⟨rfl,hb⟩
  have K2:=zH hb
  replace FR:=zH (FR.out.fut hb)
  replace HW:=zH (HW.out.fut hb)
  replace HB:=zH (HB.out.fut hb)
  replace BN:=zH (BN.out.fut hb)
  clear hb
  clear c0 hw_w1
  go_wp2_with (refine lB 87 (.tmp 1) w.heap.size BN.out Tryz.underlying87 ?_)
  refine (MO.out _).mono ?_
  rintro e w4 ⟨rfl,hb⟩
  replace FR:=zH (FR.out.fut hb)
  replace HW:=zH (HW.out.fut hb)
  replace HB:=zH (HB.out.fut hb)
  replace BN:=zH (BN.out.fut hb)
  clear hb
  go_wp2_with fail
  go_ret
  exact ⟨by rw [R.out];rfl,FR.out.out⟩
 have dm:decide (moreP d)=false:=decide_eq_false hm
 replace MO:=zH (fun w'=>MO.out w' hk)
 rw [dm] at MO
 have V2:=zH (show r=(if (scaledK d.kind=true∧quantOk d.qm d.qs=false) ∨ (d.kind=6∧quantOk d.rm d.rs=false) then 7 else if scaledK d.kind=true∧d.hi < d.lo then 2 else 0) by rw [V.out,if_neg (fun h=>h hk),if_neg hm])
 clear V hm dm
 go_enter Tryz.func49,Tryz.ntmps49
 go_wp2_with fail
 refine (NM.out _).mono ?_
 rintro e w2 ⟨rfl,hb⟩
 have K2:=zH hb
 replace FR:=zH (FR.out.fut hb)
 replace HW:=zH (HW.out.fut hb)
 replace HB:=zH (HB.out.fut hb)
 replace BN:=zH (BN.out.fut hb)
 clear hb
 clear c0 hw_w1
 go_wp2_with (refine lB 87 (.tmp 1) w.heap.size BN.out Tryz.underlying87 ?_)
 refine (MO.out _).mono ?_
 rintro e w4 ⟨rfl,hb⟩
 replace FR:=zH (FR.out.fut hb)
 replace HW:=zH (HW.out.fut hb)
 replace HB:=zH (HB.out.fut hb)
 replace BN:=zH (BN.out.fut hb)
 clear hb
 clear K2 HW HB MO NM
 obtain ⟨sc,hsc⟩:∃ x,scaledK d.kind=x:=⟨_,rfl⟩
 obtain ⟨q,hq⟩:∃ x,quantOk d.qm d.qs=x:=⟨_,rfl⟩
 obtain ⟨qr,hqr⟩:∃ x,quantOk d.rm d.rs=x:=⟨_,rfl⟩
 have KW:=zH (kinds_where (k:=d.kind))
 rw [hsc] at SC V2 KW
 rw [hq] at FQ V2
 rw [hqr] at FQR V2
 clear hsc hq hqr hk tn
 have x0:=BN.out.cell 0
 have x11:=BN.out.cell 11
 have x12:=BN.out.cell 12
 have x13:=BN.out.cell 13
 have x14:=BN.out.cell 14
 have x15:=BN.out.cell 15
 have x16:=BN.out.cell 16
 have x17:=BN.out.cell 17
 have x18:=BN.out.cell 18
 cases sc
 case false =>
  have k6:=KW.out rfl
  have t6:(d.kind == 6)=false:=by simpa using k6
  have K6:=zH k6
  clear k6
  go_wp2_with (go_at_call 78;refine (SC.out _).mono ?_;rintro e w' ⟨rfl,rfl⟩)
  go_ret
  exact ⟨by rw [V2.out];simp [K6.out],FR.out.out⟩
 case true =>
  clear KW
  cases q
  case false =>
   go_wp2_with (go_at_call 78;refine (SC.out _).mono ?_;rintro e w' ⟨rfl,rfl⟩)
   refine (FQ.out _).mono ?_
   rintro e w5 ⟨rfl,hb⟩
   clear x0 x11 x12 x13 x14 x15 x16 x17 x18
   replace FR:=zH (FR.out.fut hb)
   clear hb
   go_wp2_with fail
   go_ret
   exact ⟨by rw [V2.out];simp,FR.out.out⟩
  case true =>
   go_wp2_with (go_at_call 78;refine (SC.out _).mono ?_;rintro e w' ⟨rfl,rfl⟩)
   refine (FQ.out _).mono ?_
   rintro e w5 ⟨rfl,hb⟩
   clear x0 x11 x12 x13 x14 x15 x16 x17 x18
   replace FR:=zH (FR.out.fut hb)
   replace BN:=zH (BN.out.fut hb)
   clear hb
   have x0:=BN.out.cell 0
   have x11:=BN.out.cell 11
   have x12:=BN.out.cell 12
   have x13:=BN.out.cell 13
   have x14:=BN.out.cell 14
   have x15:=BN.out.cell 15
   have x16:=BN.out.cell 16
   have x17:=BN.out.cell 17
   have x18:=BN.out.cell 18
   by_cases k6:d.kind=6
   ·have t6:(d.kind == 6)=true:=by simpa using k6
    have K6:=zH k6
    clear k6
    cases qr
    case false =>
     go_wp2_with fail
     refine (FQR.out _).mono ?_
     rintro e w6 ⟨rfl,hb⟩
     clear x0 x11 x12 x13 x14 x15 x16 x17 x18
     replace FR:=zH (FR.out.fut hb)
     clear hb
     go_wp2_with fail
     go_ret
     exact ⟨by rw [V2.out];simp [K6.out],FR.out.out⟩
    case true =>
     go_wp2_with fail
     refine (FQR.out _).mono ?_
     rintro e w6 ⟨rfl,hb⟩
     clear x0 x11 x12 x13 x14 x15 x16 x17 x18
     replace FR:=zH (FR.out.fut hb)
     replace BN:=zH (BN.out.fut hb)
     clear hb
     have x0:=BN.out.cell 0
     have x11:=BN.out.cell 11
     have x12:=BN.out.cell 12
     have x13:=BN.out.cell 13
     have x14:=BN.out.cell 14
     have x15:=BN.out.cell 15
     have x16:=BN.out.cell 16
     have x17:=BN.out.cell 17
     have x18:=BN.out.cell 18
     by_cases hl:d.hi < d.lo
     ·have tl:decide (d.hi < d.lo)=true:=decide_eq_true hl
      have HL:=zH hl
      clear hl
      go_wp2_with (go_at_call 78;refine (SC.out _).mono ?_;rintro e w' ⟨rfl,rfl⟩)
      go_ret
      exact ⟨by rw [V2.out];simp [HL.out,K6.out],FR.out.out⟩
     ·have tl:decide (d.hi < d.lo)=false:=decide_eq_false hl
      have HL:=zH hl
      clear hl
      go_wp2_with (go_at_call 78;refine (SC.out _).mono ?_;rintro e w' ⟨rfl,rfl⟩)
      go_ret
      exact ⟨by rw [V2.out];simp [HL.out,K6.out],FR.out.out⟩
   ·have t6:(d.kind == 6)=false:=by simpa using k6
    have K6:=zH k6
    clear k6
    by_cases hl:d.hi < d.lo
    ·have tl:decide (d.hi < d.lo)=true:=decide_eq_true hl
     have HL:=zH hl
     clear hl
     go_wp2_with (go_at_call 78;refine (SC.out _).mono ?_;rintro e w' ⟨rfl,rfl⟩)
     go_ret
     exact ⟨by rw [V2.out];simp [HL.out,K6.out],FR.out.out⟩
    ·have tl:decide (d.hi < d.lo)=false:=decide_eq_false hl
     have HL:=zH hl
     clear hl
     go_wp2_with (go_at_call 78;refine (SC.out _).mono ?_;rintro e w' ⟨rfl,rfl⟩)
     go_ret
     exact ⟨by rw [V2.out];simp [HL.out,K6.out],FR.out.out⟩
end Go.Proofs.YtppcjcigekoipaaGreat
