/-
  What is wrong with a node (layer 25): kinds.Check, the document's Check.
  The shape of the next value (layer 27): next.
  The shapes of all values of nodes (layer 27), in numbers: node by node.
  The shapes of all values (layer 27): graph.Shapes.
-/
import Derived.Test.YtjkmjpjknmghlaaGreatJ36
import Derived.Test.YtjkmjpjknmghlaaGreatJ37
import Derived.Test.YtjkmjpjknmghlaaGreatJ31
set_option linter.unusedVariables false
set_option linter.unusedSimpArgs false
namespace Go.Proofs.YtjkmjpjknmghlaaGreat
open Go.RowKit Go.ChangeShapes Go.WideShapes
set_option maxRecDepth 100000
def plainN (d:Node):Node :=
 { kind:=d.kind,a:=d.a,b:=if d.kind=6 then d.b else 0,k:=if slidesK d.kind then d.k else 0,s:=if slidesK d.kind then d.s else 0,p:=if slidesK d.kind || decide (d.kind=8) then d.p else 0,out:=if d.kind=1 ∨ d.kind=3 then d.out else 0,za:=if scaledK d.kind || decide (d.kind=8) then d.za else 0,zb:=if d.kind=6 then d.zb else 0,w:=if sumsK d.kind then d.w else [],bias:=if sumsK d.kind then d.bias else [],qm:=if scaledK d.kind then d.qm else 0,qs:=if scaledK d.kind then d.qs else 0,qz:=if scaledK d.kind then d.qz else 0,rm:=if d.kind=6 then d.rm else 0,rs:=if d.kind=6 then d.rs else 0,rz:=0,lo:=if scaledK d.kind then d.lo else 0,hi:=if scaledK d.kind then d.hi else 0 }
theorem plain_any (d:Node) (W:Option Addr) (nw cw:Nat) (B:Option Addr) (nb cb:Nat) (w:World) (hk:kindOk d.kind) (hw:Sl (tInt .i8) w (blo w.heap.size) W nw cw d.w) (hb:Sl (tInt .i32) w (blo w.heap.size) B nb cb d.bias) (mw:nw≤1048576) (mb:nb≤1048576) :
  Calls Tryz.prog 71 #[.agg (nN d.kind d.a d.b d.k d.s d.p d.out d.za d.zb W nw cw B nb cb d.qm d.qs d.qz d.rm d.rs d.rz d.lo d.hi)] w (RetNode (plainN d) w):=by
 obtain ⟨kind,a,b,k,s,p,out,za,zb,wl,bl,qm,qs,qz,rm,rs,rz,lo,hi⟩:=d
 unfold kindOk at hk
 have hc:=kind_cases (k:=kind) ⟨by simp only at hk;omega,hk.2⟩
 simp only at hk hw hb ⊢
 rcases hc with rfl|rfl|rfl|rfl|rfl|rfl|rfl|rfl|rfl|rfl
 ·omega
 ·exact plain_1 a b k s p out za zb qm qs qz rm rs rz lo hi wl bl W nw cw B nb cb w hw hb mw mb
 ·exact plain_2 a b k s p out za zb qm qs qz rm rs rz lo hi wl bl W nw cw B nb cb w hw hb mw mb
 ·exact plain_3 a b k s p out za zb qm qs qz rm rs rz lo hi wl bl W nw cw B nb cb w hw hb mw mb
 ·exact plain_4 a b k s p out za zb qm qs qz rm rs rz lo hi wl bl W nw cw B nb cb w hw hb mw mb
 ·exact plain_5 a b k s p out za zb qm qs qz rm rs rz lo hi wl bl W nw cw B nb cb w hw hb mw mb
 ·exact plain_6 a b k s p out za zb qm qs qz rm rs rz lo hi wl bl W nw cw B nb cb w hw hb mw mb
 ·exact plain_7 a b k s p out za zb qm qs qz rm rs rz lo hi wl bl W nw cw B nb cb w hw hb mw mb
 ·exact plain_8 a b k s p out za zb qm qs qz rm rs rz lo hi wl bl W nw cw B nb cb w hw hb mw mb
 ·exact plain_9 a b k s p out za zb qm qs qz rm rs rz lo hi wl bl W nw cw B nb cb w hw hb mw mb
theorem nameOf_bad0 {k:Int} (h:k < 1 ∨ 9 < k):nameOf k=ByteArray.mk #[]:=by
 unfold nameOf
 rw [if_neg (by omega),if_neg (by omega),if_neg (by omega),if_neg (by omega),if_neg (by omega),if_neg (by omega),if_neg (by omega),if_neg (by omega),if_neg (by omega)]
theorem nameOf_empty (k:Int):(nameOf k).toList.isEmpty=!decide (kindOk k):=by
 by_cases h:kindOk k
 ·rw [decide_eq_true h]
  unfold kindOk at h
  have:=kind_cases ⟨by omega,h.2⟩
  rcases this with rfl|rfl|rfl|rfl|rfl|rfl|rfl|rfl|rfl|rfl
  ·omega
  all_goals (rw [ByteArray.toList_eq];rfl)
 ·rw [decide_eq_false h]
  unfold kindOk at h
  rw [nameOf_bad0 (by omega),ByteArray.toList_eq];rfl
set_option maxHeartbeats 8000000 in
theorem plain_same (d:Node) (hk:kindOk d.kind) :
  (decide (d.w=(plainN d).w) && decide (d.bias=(plainN d).bias) && ([d.kind,d.a,d.b,d.k,d.s,d.p,d.out,0] == [(plainN d).kind,(plainN d).a,(plainN d).b,(plainN d).k,(plainN d).s,(plainN d).p,(plainN d).out,0]) && ([d.za,d.zb,d.lo,d.hi] == [(plainN d).za,(plainN d).zb,(plainN d).lo,(plainN d).hi]) && ([d.qm,d.qs,d.qz] == [(plainN d).qm,(plainN d).qs,(plainN d).qz]) && ([d.rm,d.rs,d.rz] == [(plainN d).rm,(plainN d).rs,(plainN d).rz]))=!decide (moreP d):=by
 obtain ⟨kind,a,b,k,s,p,out,za,zb,wl,bl,qm,qs,qz,rm,rs,rz,lo,hi⟩:=d
 unfold kindOk at hk
 have hc:=kind_cases (k:=kind) ⟨by simp only at hk;omega,hk.2⟩
 simp only at hk
 rcases hc with rfl|rfl|rfl|rfl|rfl|rfl|rfl|rfl|rfl|rfl
 ·omega
 all_goals
  rw [Bool.eq_iff_iff]
  simp only [plainN,moreP,sumsK,slidesK,scaledK,Bool.and_eq_true,Bool.not_eq_true',decide_eq_true_eq,decide_eq_false_iff_not,beq_iff_eq,List.cons.injEq,and_true]
  by_cases h1:wl=[] <;> by_cases h2:bl=[] <;> simp [h1,h2] <;> omega
def checkV (d:Node):Int :=
 if ¬ kindOk d.kind then 6 else if moreP d then 2
 else if (scaledK d.kind=true∧quantOk d.qm d.qs=false) ∨ (d.kind=6∧quantOk d.rm d.rs=false) then 7
 else if scaledK d.kind=true∧d.hi < d.lo then 2 else 0
theorem kinds_where {k:Int} (h:scaledK k=false):k ≠ 6:=by rintro rfl;cases h
set_option maxHeartbeats 8000000 in
theorem kcheck_any (d:Node) (W:Option Addr) (nw cw:Nat) (B:Option Addr) (nb cb:Nat) (w:World) (hw:Sl (tInt .i8) w (blo w.heap.size) W nw cw d.w) (hb:Sl (tInt .i32) w (blo w.heap.size) B nb cb d.bias) (mw:nw≤1048576) (mb:nb≤1048576) :
  Calls Tryz.prog 41 #[.agg (nN d.kind d.a d.b d.k d.s d.p d.out d.za d.zb W nw cw B nb cb d.qm d.qs d.qz d.rm d.rs d.rz d.lo d.hi)] w fun e w'=>e=.returned (.int .i64 (checkV d))∧Below w.heap.size w w':=by
 obtain ⟨r,hr⟩:∃ r,checkV d=r:=⟨_,rfl⟩
 rw [hr]
 unfold checkV at hr
 have V:=zH hr.symm
 clear hr
 have HW:=zH hw
 have HB:=zH hb
 clear hw hb
 have NM:=zH (fun w=>kname_any d.kind w)
 have SC:=zH (fun w=>scaledK_any d.kind w)
 have FQ:=zH (fun w=>fixRight_any d.qm d.qs d.qz w)
 have FQR:=zH (fun w=>fixRight_any d.rm d.rs d.rz w)
 have NT:=zH (nameOf_empty d.kind)
 have FR:=zH (Far.refl w)
 obtain ⟨w1,hw_w1,BN,k_w1⟩:=nB w (nN d.kind d.a d.b d.k d.s d.p d.out d.za d.zb W nw cw B nb cb d.qm d.qs d.qz d.rm d.rs d.rz d.lo d.hi) 44
 replace FR:=zH (FR.out.fut k_w1)
 replace HW:=zH (HW.out.fut k_w1)
 replace HB:=zH (HB.out.fut k_w1)
 clear k_w1
 have c0:=BN.out.cell 0
 obtain ⟨nm,hnm⟩:∃ x,nameOf d.kind=x:=⟨_,rfl⟩
 rw [hnm] at NM NT
 clear hnm
 have PL:=zH (fun w' (hk:kindOk d.kind) (hb:Below w1.heap.size w1 w')=>plain_any d W nw cw B nb cb w' hk (HW.out.fut hb) (HB.out.fut hb) mw mb)
 by_cases hk:kindOk d.kind
 rotate_left
 ·have tn:nm.toList.isEmpty=true:=by
   have:=NT.out
   rw [decide_eq_false hk] at this
   exact this
  have R:=zH (show r=6 by rw [V.out,if_pos hk])
  clear hk V NT
  go_enter Tryz.func41,Tryz.ntmps41
  go_wp2_with fail
  refine (NM.out _).mono ?_
  rintro e w2 ⟨rfl,hb⟩
  replace FR:=zH (FR.out.fut hb)
  clear hb
  clear c0 hw_w1
  go_wp2_with fail
  go_ret
  exact ⟨by rw [R.out];rfl,FR.out.out⟩
 have tn:nm.toList.isEmpty=false:=by
  have:=NT.out
  rw [decide_eq_true hk] at this
  exact this
 clear NT
 by_cases hm:moreP d
 ·have R:=zH (show r=2 by rw [V.out,if_neg (fun h=>h hk),if_pos hm])
  have PS:=zH (plain_same d hk)
  have dm:decide (moreP d)=true:=decide_eq_true hm
  rw [dm] at PS
  clear V hm dm
  go_enter Tryz.func41,Tryz.ntmps41
  go_wp2_with fail
  refine (NM.out _).mono ?_
  rintro e w2 ⟨rfl,hb⟩
  have K2:=zH hb
  replace FR:=zH (FR.out.fut hb)
  replace HW:=zH (HW.out.fut hb)
  replace HB:=zH (HB.out.fut hb)
  replace BN:=zH (BN.out.fut hb)
  clear hb
  clear c0 hw_w1
  go_wp2_with fail
  refine wp_region_held_drew (S:=fun w'=>Blk w' w.heap.size 44 (nN d.kind d.a d.b d.k d.s d.p d.out d.za d.zb W nw cw B nb cb d.qm d.qs d.qz d.rm d.rs d.rz d.lo d.hi)∧Below w2.heap.size w2 w') (by kernel_rfl) ?_ (fun hS=>?_)
  ·exact ⟨BN.out.drew,(Below.refl _ _).drew⟩
  refine tkH 0 rfl (yieldsIf_load_blk (by rfl) 44 (.tmp 1) rfl w.heap.size 0 rfl _ _ (nN d.kind d.a d.b d.k d.s d.p d.out d.za d.zb W nw cw B nb cb d.qm d.qs d.qz d.rm d.rs d.rz d.lo d.hi) _ (fun w hs=>hs.1) Tryz.underlying44 rfl (by kernel_rfl) rfl) hS ?_
  try simp only [pX]
  refine tkH 1 rfl (yieldsIf_load_blk (by rfl) 44 (.tmp 1) rfl w.heap.size 0 rfl _ _ (nN d.kind d.a d.b d.k d.s d.p d.out d.za d.zb W nw cw B nb cb d.qm d.qs d.qz d.rm d.rs d.rz d.lo d.hi) _ (fun w hs=>hs.1) Tryz.underlying44 rfl (by kernel_rfl) rfl) hS ?_
  try simp only [pX]
  refine rH 2 rfl (fun K hK=>?_)
  go_simp
  refine (PL.out _ hk (below_later (Below.refl _ _).drew K2.out)).mono ?_;rintro e w3 ⟨W1,n1,c1,B1,n2,c2,rfl,s1,s2,hb⟩;have S1:=zH s1;have S2:=zH s2;have K3:=zH (below_call (Below.refl _ _).drew hb (Nat.le_refl _));clear s1 s2
  refine hK.out _ _ ?_ (fun hS=>?_)
  ·exact ⟨(by first|exact cell_later hb hS.1|exact Blk.later hS.1 hb),below_later hb hS.2⟩
  clear hK K
  try simp only [pX]
  refine rH 3 rfl (fun K hK=>?_)
  go_simp
  refine (same_bools _ _ _ _ _ _ d.kind d.a d.b d.k d.s d.p d.out d.za d.zb d.qm d.qs d.qz d.rm d.rs d.rz d.lo d.hi _ _ _ _ _ _ _ _ _ _ _ _ _ _ _ _ _ d.w d.bias _ _ W nw cw B nb cb W1 n1 c1 B1 n2 c2 _ (HW.out.fut K3.out) (HB.out.fut K3.out) S1.out.old S2.out.old rfl rfl rfl rfl rfl rfl).mono ?_;rintro e w4 ⟨rfl,hb⟩;rw [PS.out]
  refine hK.out _ _ ?_ (fun hS=>?_)
  ·exact ⟨(by first|exact cell_later hb hS.1|exact Blk.later hS.1 hb),below_later hb hS.2⟩
  clear hK K
  try simp only [pX]
  refine kH 4 rfl hS ?_
  try simp only [pX]
  refine kH 5 rfl hS ?_
  try simp only [pX]
  refine wpAnyH_done (by kernel_rfl) ?_ _
  have hb:=hS.2
  replace FR:=zH (FR.out.fut hb)
  replace HW:=zH (HW.out.fut hb)
  replace HB:=zH (HB.out.fut hb)
  replace BN:=zH (BN.out.fut hb)
  clear hb
  clear hS S1 S2 K3
  go_wp2_with fail
  go_ret
  exact ⟨by rw [R.out];rfl,FR.out.out⟩
 have PS:=zH (plain_same d hk)
 have dm:decide (moreP d)=false:=decide_eq_false hm
 rw [dm] at PS
 have V2:=zH (show r=(if (scaledK d.kind=true∧quantOk d.qm d.qs=false) ∨ (d.kind=6∧quantOk d.rm d.rs=false) then 7 else if scaledK d.kind=true∧d.hi < d.lo then 2 else 0) by rw [V.out,if_neg (fun h=>h hk),if_neg hm])
 clear V hm dm
 go_enter Tryz.func41,Tryz.ntmps41
 go_wp2_with fail
 refine (NM.out _).mono ?_
 rintro e w2 ⟨rfl,hb⟩
 have K2:=zH hb
 replace FR:=zH (FR.out.fut hb)
 replace HW:=zH (HW.out.fut hb)
 replace HB:=zH (HB.out.fut hb)
 replace BN:=zH (BN.out.fut hb)
 clear hb
 clear c0 hw_w1
 go_wp2_with fail
 refine wp_region_held_drew (S:=fun w'=>Blk w' w.heap.size 44 (nN d.kind d.a d.b d.k d.s d.p d.out d.za d.zb W nw cw B nb cb d.qm d.qs d.qz d.rm d.rs d.rz d.lo d.hi)∧Below w2.heap.size w2 w') (by kernel_rfl) ?_ (fun hS=>?_)
 ·exact ⟨BN.out.drew,(Below.refl _ _).drew⟩
 refine tkH 0 rfl (yieldsIf_load_blk (by rfl) 44 (.tmp 1) rfl w.heap.size 0 rfl _ _ (nN d.kind d.a d.b d.k d.s d.p d.out d.za d.zb W nw cw B nb cb d.qm d.qs d.qz d.rm d.rs d.rz d.lo d.hi) _ (fun w hs=>hs.1) Tryz.underlying44 rfl (by kernel_rfl) rfl) hS ?_
 try simp only [pX]
 refine tkH 1 rfl (yieldsIf_load_blk (by rfl) 44 (.tmp 1) rfl w.heap.size 0 rfl _ _ (nN d.kind d.a d.b d.k d.s d.p d.out d.za d.zb W nw cw B nb cb d.qm d.qs d.qz d.rm d.rs d.rz d.lo d.hi) _ (fun w hs=>hs.1) Tryz.underlying44 rfl (by kernel_rfl) rfl) hS ?_
 try simp only [pX]
 refine rH 2 rfl (fun K hK=>?_)
 go_simp
 refine (PL.out _ hk (below_later (Below.refl _ _).drew K2.out)).mono ?_;rintro e w3 ⟨W1,n1,c1,B1,n2,c2,rfl,s1,s2,hb⟩;have S1:=zH s1;have S2:=zH s2;have K3:=zH (below_call (Below.refl _ _).drew hb (Nat.le_refl _));clear s1 s2
 refine hK.out _ _ ?_ (fun hS=>?_)
 ·exact ⟨(by first|exact cell_later hb hS.1|exact Blk.later hS.1 hb),below_later hb hS.2⟩
 clear hK K
 try simp only [pX]
 refine rH 3 rfl (fun K hK=>?_)
 go_simp
 refine (same_bools _ _ _ _ _ _ d.kind d.a d.b d.k d.s d.p d.out d.za d.zb d.qm d.qs d.qz d.rm d.rs d.rz d.lo d.hi _ _ _ _ _ _ _ _ _ _ _ _ _ _ _ _ _ d.w d.bias _ _ W nw cw B nb cb W1 n1 c1 B1 n2 c2 _ (HW.out.fut K3.out) (HB.out.fut K3.out) S1.out.old S2.out.old rfl rfl rfl rfl rfl rfl).mono ?_;rintro e w4 ⟨rfl,hb⟩;rw [PS.out]
 refine hK.out _ _ ?_ (fun hS=>?_)
 ·exact ⟨(by first|exact cell_later hb hS.1|exact Blk.later hS.1 hb),below_later hb hS.2⟩
 clear hK K
 try simp only [pX]
 refine kH 4 rfl hS ?_
 try simp only [pX]
 refine kH 5 rfl hS ?_
 try simp only [pX]
 refine wpAnyH_done (by kernel_rfl) ?_ _
 have hb:=hS.2
 replace FR:=zH (FR.out.fut hb)
 replace HW:=zH (HW.out.fut hb)
 replace HB:=zH (HB.out.fut hb)
 replace BN:=zH (BN.out.fut hb)
 clear hb
 clear hS S1 S2 K3
 clear K2 HW HB PL PS NM
 obtain ⟨sc,hsc⟩:∃ x,scaledK d.kind=x:=⟨_,rfl⟩
 obtain ⟨q,hq⟩:∃ x,quantOk d.qm d.qs=x:=⟨_,rfl⟩
 obtain ⟨qr,hqr⟩:∃ x,quantOk d.rm d.rs=x:=⟨_,rfl⟩
 have KW:=zH (kinds_where (k:=d.kind))
 rw [hsc] at SC V2 KW
 rw [hq] at FQ V2
 rw [hqr] at FQR V2
 clear hsc hq hqr hk tn
 have x0:=BN.out.cell 0
 have x11:=BN.out.cell 11
 have x12:=BN.out.cell 12
 have x13:=BN.out.cell 13
 have x14:=BN.out.cell 14
 have x15:=BN.out.cell 15
 have x16:=BN.out.cell 16
 have x17:=BN.out.cell 17
 have x18:=BN.out.cell 18
 cases sc
 case false =>
  have k6:=KW.out rfl
  have t6:(d.kind == 6)=false:=by simpa using k6
  have K6:=zH k6
  clear k6
  go_wp2_with (go_at_call 72;refine (SC.out _).mono ?_;rintro e w' ⟨rfl,rfl⟩)
  go_ret
  exact ⟨by rw [V2.out];simp [K6.out],FR.out.out⟩
 case true =>
  clear KW
  cases q
  case false =>
   go_wp2_with (go_at_call 72;refine (SC.out _).mono ?_;rintro e w' ⟨rfl,rfl⟩)
   refine (FQ.out _).mono ?_
   rintro e w5 ⟨rfl,hb⟩
   clear x0 x11 x12 x13 x14 x15 x16 x17 x18
   replace FR:=zH (FR.out.fut hb)
   clear hb
   go_wp2_with fail
   go_ret
   exact ⟨by rw [V2.out];simp,FR.out.out⟩
  case true =>
   go_wp2_with (go_at_call 72;refine (SC.out _).mono ?_;rintro e w' ⟨rfl,rfl⟩)
   refine (FQ.out _).mono ?_
   rintro e w5 ⟨rfl,hb⟩
   clear x0 x11 x12 x13 x14 x15 x16 x17 x18
   replace FR:=zH (FR.out.fut hb)
   replace BN:=zH (BN.out.fut hb)
   clear hb
   have x0:=BN.out.cell 0
   have x11:=BN.out.cell 11
   have x12:=BN.out.cell 12
   have x13:=BN.out.cell 13
   have x14:=BN.out.cell 14
   have x15:=BN.out.cell 15
   have x16:=BN.out.cell 16
   have x17:=BN.out.cell 17
   have x18:=BN.out.cell 18
   by_cases k6:d.kind=6
   ·have t6:(d.kind == 6)=true:=by simpa using k6
    have K6:=zH k6
    clear k6
    cases qr
    case false =>
     go_wp2_with fail
     refine (FQR.out _).mono ?_
     rintro e w6 ⟨rfl,hb⟩
     clear x0 x11 x12 x13 x14 x15 x16 x17 x18
     replace FR:=zH (FR.out.fut hb)
     clear hb
     go_wp2_with fail
     go_ret
     exact ⟨by rw [V2.out];simp [K6.out],FR.out.out⟩
    case true =>
     go_wp2_with fail
     refine (FQR.out _).mono ?_
     rintro e w6 ⟨rfl,hb⟩
     clear x0 x11 x12 x13 x14 x15 x16 x17 x18
     replace FR:=zH (FR.out.fut hb)
     replace BN:=zH (BN.out.fut hb)
     clear hb
     have x0:=BN.out.cell 0
     have x11:=BN.out.cell 11
     have x12:=BN.out.cell 12
     have x13:=BN.out.cell 13
     have x14:=BN.out.cell 14
     have x15:=BN.out.cell 15
     have x16:=BN.out.cell 16
     have x17:=BN.out.cell 17
     have x18:=BN.out.cell 18
     by_cases hl:d.hi < d.lo
     ·have tl:decide (d.hi < d.lo)=true:=decide_eq_true hl
      have HL:=zH hl
      clear hl
      go_wp2_with (go_at_call 72;refine (SC.out _).mono ?_;rintro e w' ⟨rfl,rfl⟩)
      go_ret
      exact ⟨by rw [V2.out];simp [HL.out,K6.out],FR.out.out⟩
     ·have tl:decide (d.hi < d.lo)=false:=decide_eq_false hl
      have HL:=zH hl
      clear hl
      go_wp2_with (go_at_call 72;refine (SC.out _).mono ?_;rintro e w' ⟨rfl,rfl⟩)
      go_ret
      exact ⟨by rw [V2.out];simp [HL.out,K6.out],FR.out.out⟩
   ·have t6:(d.kind == 6)=false:=by simpa using k6
    have K6:=zH k6
    clear k6
    by_cases hl:d.hi < d.lo
    ·have tl:decide (d.hi < d.lo)=true:=decide_eq_true hl
     have HL:=zH hl
     clear hl
     go_wp2_with (go_at_call 72;refine (SC.out _).mono ?_;rintro e w' ⟨rfl,rfl⟩)
     go_ret
     exact ⟨by rw [V2.out];simp [HL.out,K6.out],FR.out.out⟩
    ·have tl:decide (d.hi < d.lo)=false:=decide_eq_false hl
     have HL:=zH hl
     clear hl
     go_wp2_with (go_at_call 72;refine (SC.out _).mono ?_;rintro e w' ⟨rfl,rfl⟩)
     go_ret
     exact ⟨by rw [V2.out];simp [HL.out,K6.out],FR.out.out⟩
abbrev Sh3:=Int × Int × Int
theorem Sl.shape_at {w:World} {S:Nat → Prop} {A:Option Addr} {n cap:Nat} {l:List Sh3} (h:Sl tShape w S A n cap l) (i:Nat) (hi:i < n) :
  ∃ b off,A=some ⟨b,off,none⟩∧S b∧b < w.heap.size∧InK .i64 (l.getD i (0,0,0)).1∧InK .i64 (l.getD i (0,0,0)).2.1∧InK .i64 (l.getD i (0,0,0)).2.2∧l[i]?=some (l.getD i (0,0,0)) ∧
   w.rangeAt b (off+i*3) [.int .i64 (l.getD i (0,0,0)).1,.int .i64 (l.getD i (0,0,0)).2.1,.int .i64 (l.getD i (0,0,0)).2.2]:=by
 obtain ⟨x,b,off,xs,hx,hA,hS,hb,hr,hl,hc⟩:=h.cells i hi (by decide)
 obtain ⟨_,_,rfl,⟨rfl,h1⟩,_,_,rfl,⟨rfl,h2⟩,rfl,h3⟩:=hr
 have e:l.getD i (0,0,0)=x:=by rw [List.getD_eq_getElem?_getD,hx];rfl
 rw [e]
 refine ⟨b,off,hA,hS,hb,h1,h2,h3,hx,fun j v hv=>?_⟩
 have:=hc j v hv
 rwa [show tShape.size=3 from rfl,← Nat.add_assoc] at this
def nextV (d:Node) (l:List Sh3):ShE :=
 if checkV d ≠ 0 then noS (checkV d) else if thereV d l.length=false then noS 8
 else shapeV (l.getD d.a.toNat (0,0,0)).1 (l.getD d.a.toNat (0,0,0)).2.1 (l.getD d.a.toNat (0,0,0)).2.2 (l.getD (secondV d).toNat (0,0,0)).1 (l.getD (secondV d).toNat (0,0,0)).2.1 (l.getD (secondV d).toNat (0,0,0)).2.2 d
theorem check_kind {d:Node} (h:checkV d=0):1≤d.kind∧d.kind≤9:=by
 unfold checkV at h
 by_cases hk:kindOk d.kind
 ·exact hk
 ·rw [if_pos hk] at h;cases h
theorem there_bd {d:Node} {n:Int} (h:thereV d n=true):0≤d.a∧d.a < n∧0≤secondV d∧secondV d < n:=by
 unfold thereV at h
 unfold secondV
 simp only [Bool.and_eq_true,Bool.or_eq_true,decide_eq_true_eq] at h
 split <;> omega
set_option maxHeartbeats 16000000 in
theorem next_any (d:Node) (W:Option Addr) (nw cw:Nat) (B:Option Addr) (nb cb:Nat) (A:Option Addr) (n cap:Nat) (l:List Sh3) (w:World) (hd:NodeIn d) (hw:Sl (tInt .i8) w (blo w.heap.size) W nw cw d.w) (hb:Sl (tInt .i32) w (blo w.heap.size) B nb cb d.bias) (mw:nw≤1048576) (mb:nb≤1048576) (hs:Sl tShape w (blo w.heap.size) A n cap l) :
  Calls Tryz.prog 25 #[.agg (nN d.kind d.a d.b d.k d.s d.p d.out d.za d.zb W nw cw B nb cb d.qm d.qs d.qz d.rm d.rs d.rz d.lo d.hi),.slice A n cap] w fun e w'=>e=retS (nextV d l)∧Below w.heap.size w w':=by
 have hn:=hs.n_eq
 have hm:n≤9223372036854775807:=Nat.le_trans hs.cap_le hs.max_le
 obtain ⟨r,hr⟩:∃ r,nextV d l=r:=⟨_,rfl⟩
 rw [hr]
 unfold nextV at hr
 rw [hn] at hr
 have CK:=zH (fun (w':World) (hb':Below w.heap.size w w')=>kcheck_any d W nw cw B nb cb w' (hw.later hb' (Nat.le_refl _)) (hb.later hb' (Nat.le_refl _)) mw mb)
 have TH:=zH (fun w=>there_any d W nw cw B nb cb n w hd.a hd.b)
 have OF:=zH (fun w=>of_any d W nw cw B nb cb w hd.a hd.b)
 have HW:=zH hw.n_eq
 have HB:=zH hb.n_eq
 have HS:=zH hs
 have HD:=zH hd
 have KD:=zH (check_kind (d:=d))
 have TB:=zH (there_bd (d:=d) (n:=n))
 have VV:=zH hr.symm
 clear hr hw hb hs hd hn
 obtain ⟨ck,hck⟩:∃ x,checkV d=x:=⟨_,rfl⟩
 obtain ⟨th,hth⟩:∃ x,thereV d n=x:=⟨_,rfl⟩
 rw [hck] at CK KD VV
 rw [hth] at TH TB VV
 clear hck hth
 have FR:=zH (Far.refl w)
 obtain ⟨w1,hw_w1,BN,k_w1⟩:=nB w (nN d.kind d.a d.b d.k d.s d.p d.out d.za d.zb W nw cw B nb cb d.qm d.qs d.qz d.rm d.rs d.rz d.lo d.hi) 44
 replace FR:=zH (FR.out.fut k_w1)
 clear k_w1
 obtain ⟨w2,hw_w2,BR,k_w2⟩:=nB w1 #[.int .i64 0,.int .i64 0,.int .i64 0] 24
 replace FR:=zH (FR.out.fut k_w2)
 replace BN:=zH (BN.out.fut k_w2)
 clear k_w2
 have l1:w.heap.size < w1.heap.size:=by rw [← hw_w1];simp
 have l2:w1.heap.size < w2.heap.size:=by rw [← hw_w2];simp
 by_cases c1:ck=0
 rotate_left
 ·have t1:(ck != 0)=true:=by simpa using c1
  have R:=zH (show r=noS ck by rw [VV.out,if_pos c1])
  clear c1 VV
  go_enter Tryz.func25,Tryz.ntmps25
  go_wp2_with (refine wpList_load_row rfl 44 (.tmp 2) rfl w.heap.size rfl _ _ (0,0) _ BN.out.heap Tryz.underlying44 rfl (by kernel_rfl) ?_)
  clear hw_w1 hw_w2
  refine (CK.out _ FR.out.out).mono ?_
  rintro e w3 ⟨rfl,hb⟩
  replace FR:=zH (FR.out.fut hb)
  replace BN:=zH (BN.out.fut hb)
  replace BR:=zH (BR.out.fut hb)
  clear hb
  go_wp2_with (refine wpList_store_all rfl 24 (.tmp 4) (.tmp 11) rfl w1.heap.size #[.int .i64 0,.int .i64 0,.int .i64 0] rfl rfl _ _ BR.out rfl (by kernel_rfl) (by simp [Value.oneCell']) ?_;intro w7 BR7 g7)
  refine ret_cell_tmp rfl BR7 rfl Tryz.underlying24 (by kernel_rfl) rfl ⟨by rw [R.out];rfl,(FR.out.away g7 (by omega)).out⟩
 subst c1
 have t1:((0:Int) != 0)=false:=rfl
 cases th with
 | false =>
  have R:=zH (show r=noS 8 by rw [VV.out,if_neg (by decide),if_pos rfl])
  clear VV
  go_enter Tryz.func25,Tryz.ntmps25
  go_wp2_with (refine wpList_load_row rfl 44 (.tmp 2) rfl w.heap.size rfl _ _ (0,0) _ BN.out.heap Tryz.underlying44 rfl (by kernel_rfl) ?_)
  clear hw_w1 hw_w2
  refine (CK.out _ FR.out.out).mono ?_
  rintro e w3 ⟨rfl,hb⟩
  replace FR:=zH (FR.out.fut hb)
  replace BN:=zH (BN.out.fut hb)
  replace BR:=zH (BR.out.fut hb)
  clear hb
  go_wp2_with (refine wpList_load_row rfl 44 (.tmp 2) rfl w.heap.size rfl _ _ (0,0) _ BN.out.heap Tryz.underlying44 rfl (by kernel_rfl) ?_)
  refine (TH.out _).mono ?_
  rintro e w4 ⟨rfl,hb⟩
  replace FR:=zH (FR.out.fut hb)
  replace BN:=zH (BN.out.fut hb)
  replace BR:=zH (BR.out.fut hb)
  clear hb
  go_wp2_with (refine wpList_store_all rfl 24 (.tmp 4) (.tmp 18) rfl w1.heap.size #[.int .i64 0,.int .i64 0,.int .i64 0] rfl rfl _ _ BR.out rfl (by kernel_rfl) (by simp [Value.oneCell']) ?_;intro w7 BR7 g7)
  refine ret_cell_tmp rfl BR7 rfl Tryz.underlying24 (by kernel_rfl) rfl ⟨by rw [R.out];rfl,(FR.out.away g7 (by omega)).out⟩
 | true =>
  obtain ⟨p1,p2,p3,p4⟩:=TB.out rfl
  have hk:=KD.out rfl
  obtain ⟨ia,hia⟩:∃ ia,d.a.toNat=ia:=⟨_,rfl⟩
  obtain ⟨ib,hib⟩:∃ ib,(secondV d).toNat=ib:=⟨_,rfl⟩
  obtain ⟨b0,off0,rfl,_,_,k1,k2,k3,_,q1⟩:=HS.out.shape_at ia (by omega)
  obtain ⟨b0',off0',e0,_,_,k4,k5,k6,_,q2⟩:=HS.out.shape_at ib (by omega)
  obtain ⟨rfl,rfl⟩:b0=b0'∧off0=off0':=by simpa using e0
  have V2:=zH (show r=shapeV (l.getD ia (0,0,0)).1 (l.getD ia (0,0,0)).2.1 (l.getD ia (0,0,0)).2.2 (l.getD ib (0,0,0)).1 (l.getD ib (0,0,0)).2.1 (l.getD ib (0,0,0)).2.2 d by rw [VV.out,if_neg (by decide),if_neg (by decide),hia,hib])
  obtain ⟨⟨x,y,z⟩,hx⟩:∃ s,l.getD ia (0,0,0)=s:=⟨_,rfl⟩
  obtain ⟨⟨x',y',z'⟩,hx'⟩:∃ s,l.getD ib (0,0,0)=s:=⟨_,rfl⟩
  rw [hx] at q1 k1 k2 k3 V2
  rw [hx'] at q2 k4 k5 k6 V2
  simp only at q1 q2 k1 k2 k3 k4 k5 k6 V2
  have Q1:=zH q1
  have Q2:=zH q2
  obtain ⟨sc,hsc⟩:∃ s,secondV d=s:=⟨_,rfl⟩
  rw [hsc] at p3 p4 OF hib
  have KS:=zH (fun w=>kshape_any x y z x' y' z' d W nw cw B nb cb w k1 k2 k3 HD.out.out HD.out.p HW.out.symm HB.out.symm mw mb hk)
  obtain ⟨⟨⟨x1,x2,x3⟩,xe⟩,hxx⟩:∃ s,shapeV x y z x' y' z' d=s:=⟨_,rfl⟩
  rw [hxx] at KS V2
  simp only [retS] at KS
  have R:=zH V2.out
  clear VV V2 hx hx' hxx hsc k1 k2 k3 k4 k5 k6 q1 q2 e0 hk KD TB HD
  go_enter Tryz.func25,Tryz.ntmps25
  go_wp2_with (refine wpList_load_row rfl 44 (.tmp 2) rfl w.heap.size rfl _ _ (0,0) _ BN.out.heap Tryz.underlying44 rfl (by kernel_rfl) ?_)
  clear hw_w1 hw_w2
  refine (CK.out _ FR.out.out).mono ?_
  rintro e w3 ⟨rfl,hb⟩
  replace FR:=zH (FR.out.fut hb)
  replace BN:=zH (BN.out.fut hb)
  replace BR:=zH (BR.out.fut hb)
  clear hb
  go_wp2_with (refine wpList_load_row rfl 44 (.tmp 2) rfl w.heap.size rfl _ _ (0,0) _ BN.out.heap Tryz.underlying44 rfl (by kernel_rfl) ?_)
  refine (TH.out _).mono ?_
  rintro e w4 ⟨rfl,hb⟩
  replace FR:=zH (FR.out.fut hb)
  replace BN:=zH (BN.out.fut hb)
  replace BR:=zH (BR.out.fut hb)
  clear hb
  clear CK TH
  go_wp2_with fail
  refine wp_region_held_drew (S:=fun w'=>w'.cell? ⟨w.heap.size,1,none⟩=some (.int .i64 d.a)∧Blk w' w.heap.size 44 (nN d.kind d.a d.b d.k d.s d.p d.out d.za d.zb W nw cw B nb cb d.qm d.qs d.qz d.rm d.rs d.rz d.lo d.hi)∧Below w.heap.size w w') (by kernel_rfl) ?_ (fun hS=>?_)
  ·exact ⟨BN.out.drew.cell 1,BN.out.drew,FR.out.out.drew⟩
  refine tkH 0 rfl (yieldsIf_load_blk (by rfl) 44 (.tmp 2) rfl w.heap.size 0 rfl _ _ (nN d.kind d.a d.b d.k d.s d.p d.out d.za d.zb W nw cw B nb cb d.qm d.qs d.qz d.rm d.rs d.rz d.lo d.hi) _ (fun w hs=>hs.2.1) Tryz.underlying44 rfl (by kernel_rfl) rfl) hS ?_
  try simp only [pX]
  refine kH 1 rfl hS ?_
  try simp only [pX]
  refine kH 2 rfl hS ?_
  try simp only [pX]
  refine kH 3 rfl hS ?_
  try simp only [pX]
  refine kH 4 rfl hS ?_
  try simp only [pX]
  refine tkH 5 rfl (yieldsIf_load_mid (by rfl) 24 (.tmp 23) rfl b0 (off0+ia*3) (by rw [← hia];rfl) _ _ (fun w hs j v hv=>cell_later hs.2.2 (Q1.out j v hv)) Tryz.underlying24 rfl (by kernel_rfl)) hS ?_
  try simp only [pX]
  refine kH 6 rfl hS ?_
  try simp only [pX]
  refine tkH 7 rfl (yieldsIf_load_blk (by rfl) 44 (.tmp 2) rfl w.heap.size 0 rfl _ _ (nN d.kind d.a d.b d.k d.s d.p d.out d.za d.zb W nw cw B nb cb d.qm d.qs d.qz d.rm d.rs d.rz d.lo d.hi) _ (fun w hs=>hs.2.1) Tryz.underlying44 rfl (by kernel_rfl) rfl) hS ?_
  try simp only [pX]
  refine rH 8 rfl (fun K hK=>?_)
  go_simp
  refine (OF.out _).mono ?_;rintro e w5 ⟨rfl,hb⟩;have BR5:=zH (BR.out.drew.later hb)
  refine hK.out _ _ ?_ (fun hS=>?_)
  ·exact ⟨(by first|exact cell_later hb hS.1|exact Blk.later hS.1 hb),(by first|exact cell_later hb hS.2.1|exact Blk.later hS.2.1 hb),below_later hb hS.2.2⟩
  clear hK K
  try simp only [pX]
  refine kH 9 rfl hS ?_
  try simp only [pX]
  refine tkH 10 rfl (yieldsIf_load_mid (by rfl) 24 (.tmp 28) rfl b0 (off0+ib*3) (by rw [← hib];rfl) _ _ (fun w hs j v hv=>cell_later hs.2.2 (Q2.out j v hv)) Tryz.underlying24 rfl (by kernel_rfl)) hS ?_
  try simp only [pX]
  refine rH 11 rfl (fun K hK=>?_)
  go_simp
  refine (KS.out _).mono ?_;rintro e w6 ⟨rfl,hb⟩;have BR6:=zH (BR5.out.later hb)
  refine hK.out _ _ ?_ (fun hS=>?_)
  ·exact ⟨(by first|exact cell_later hb hS.1|exact Blk.later hS.1 hb),(by first|exact cell_later hb hS.2.1|exact Blk.later hS.2.1 hb),below_later hb hS.2.2⟩
  clear hK K
  try simp only [pX]
  refine kH 12 rfl hS ?_
  try simp only [pX]
  refine kH 13 rfl hS ?_
  try simp only [pX]
  refine rH 14 rfl (fun K hK=>?_)
  (rw [if_pos (by rfl)];refine oper_store_blk 24 (.tmp 4) (.tmp 31) rfl w1.heap.size 0 #[.int .i64 x1,.int .i64 x2,.int .i64 x3] rfl rfl _ #[.int .i64 0,.int .i64 0,.int .i64 0] #[.int .i64 x1,.int .i64 x2,.int .i64 x3] BR6.out (by simp) (by kernel_rfl) (by simp [Value.oneCell']) rfl ?_;intro w7 BR7 g7;have BN7:=hS.2.1.away g7 (by omega);refine hK.out _ _ ⟨BN7.cell 1,BN7,hS.2.2.grown g7 hS.2.2.size (fun k h=>by have:=Option.some.inj h;omega)⟩ (fun hS=>?_))
  clear hK K
  try simp only [pX]
  refine kH 15 rfl hS ?_
  try simp only [pX]
  refine wpAnyH_done (by kernel_rfl) ?_ _
  have FZ:=hS.2.2
  go_wp2_with fail
  refine ret_cell_tmp rfl BR7 rfl Tryz.underlying24 (by kernel_rfl) rfl ⟨by rw [R.out];rfl,FZ⟩
structure GoodS (x:Sh3):Prop where
 h:1≤x.1∧x.1≤1024
 v:1≤x.2.1∧x.2.1≤1024
 c:1≤x.2.2∧x.2.2≤1024
theorem GoodS.of {h v c:Int} (e:¬ elems h v c=0):GoodS (h,v,c):=by
 have:=elems_bd e
 exact ⟨by simp only;omega,by simp only;omega,by simp only;omega⟩
theorem slideV_good {h v c k s p o:Int} (e:(slideV h v c k s p o).2=0):GoodS (slideV h v c k s p o).1:=by
 unfold slideV at *
 by_cases c1:elems h v c=0
 ·rw [if_pos c1] at e;cases e
 rw [if_neg c1] at e ⊢
 by_cases c2:(stepsV h k s p).2 ≠ 0
 ·rw [if_pos c2] at e;exact absurd e c2
 rw [if_neg c2] at e ⊢
 by_cases c3:(stepsV v k s p).2 ≠ 0
 ·rw [if_pos c3] at e;exact absurd e c3
 rw [if_neg c3] at e ⊢
 by_cases c4:elems (stepsV h k s p).1 (stepsV v k s p).1 o=0
 ·rw [if_pos c4] at e;cases e
 rw [if_neg c4]
 exact .of c4
theorem fitV_good {x:ShE} {want out:Int} {d:Node} (hx:x.2=0 → GoodS x.1) (e:(fitV x want out d).2=0):GoodS (fitV x want out d).1:=by
 unfold fitV at *
 by_cases c1:x.2 ≠ 0
 ·rw [if_pos c1] at e;exact absurd e c1
 rw [if_neg c1] at e ⊢
 by_cases c2:¬ (d.w.length:Int)=want ∨ 16384 < d.w.length ∨ ¬ (d.bias.length:Int)=out
 ·rw [if_pos c2] at e;cases e
 rw [if_neg c2] at e ⊢
 exact hx e
theorem denseV_good {h v c:Int} {d:Node} (e:(denseV h v c d).2=0):GoodS (denseV h v c d).1:=by
 unfold denseV at *
 by_cases c1:elems h v c=0 ∨ elems 1 1 d.out=0
 ·rw [if_pos c1] at e;cases e
 rw [if_neg c1] at e ⊢
 by_cases c2:¬ (d.w.length:Int)=d.out*elems h v c ∨ 16384 < d.w.length ∨ ¬ (d.bias.length:Int)=d.out
 ·rw [if_pos c2] at e;cases e
 rw [if_neg c2]
 exact .of (fun h=>c1 (.inr h))
theorem aroundV_good {h v c p:Int} (e:(aroundV h v c p).2=0):GoodS (aroundV h v c p).1:=by
 unfold aroundV at *
 by_cases c1:p < 0 ∨ 4 < p
 ·rw [if_pos c1] at e;cases e
 rw [if_neg c1] at e ⊢
 by_cases c2:elems (h+2*p) (v+2*p) c=0
 ·rw [if_pos c2] at e;cases e
 rw [if_neg c2]
 exact .of c2
theorem plainV_good {k h v c h2 v2 c2 p:Int} (e:(plainV k h v c h2 v2 c2 p).2=0):GoodS (plainV k h v c h2 v2 c2 p).1:=by
 unfold plainV at *
 by_cases c1:elems h v c=0
 ·rw [if_pos c1] at e;cases e
 rw [if_neg c1] at e ⊢
 by_cases q:k=6∧([h,v,c] == [h2,v2,c2])=false
 ·rw [if_pos q] at e;cases e
 rw [if_neg q] at e ⊢
 by_cases k8:k=8
 ·rw [if_pos k8] at e ⊢;exact aroundV_good e
 rw [if_neg k8] at e ⊢
 by_cases k9:k=9
 ·rw [if_pos k9]
  have:=elems_range h v c
  exact ⟨by simp only;omega,by simp only;omega,by simp only;omega⟩
 rw [if_neg k9]
 exact .of c1
theorem shapeV_good {h v c h2 v2 c2:Int} {d:Node} (e:(shapeV h v c h2 v2 c2 d).2=0):GoodS (shapeV h v c h2 v2 c2 d).1:=by
 unfold shapeV at *
 by_cases k1:d.kind=1
 ·rw [if_pos k1] at e ⊢;exact fitV_good slideV_good e
 rw [if_neg k1] at e ⊢
 by_cases k2:d.kind=2
 ·rw [if_pos k2] at e ⊢;exact fitV_good slideV_good e
 rw [if_neg k2] at e ⊢
 by_cases k3:d.kind=3
 ·rw [if_pos k3] at e ⊢;exact denseV_good e
 rw [if_neg k3] at e ⊢
 by_cases k4:d.kind=4 ∨ d.kind=5
 ·rw [if_pos k4] at e ⊢;exact slideV_good e
 rw [if_neg k4] at e ⊢
 exact plainV_good e
theorem nextV_good {d:Node} {l:List Sh3} (e:(nextV d l).2=0):GoodS (nextV d l).1:=by
 unfold nextV at *
 by_cases c1:checkV d ≠ 0
 ·rw [if_pos c1] at e;exact absurd e c1
 rw [if_neg c1] at e ⊢
 by_cases c2:thereV d l.length=false
 ·rw [if_pos c2] at e;cases e
 rw [if_neg c2] at e ⊢
 exact shapeV_good e
theorem GoodS.rep {w:World} {S:Nat → Prop} {x y z:Int} (h:GoodS (x,y,z)):tShape.rep w S [.int .i64 x,.int .i64 y,.int .i64 z] (x,y,z):=by
 have h1:=h.h
 have h2:=h.v
 have h3:=h.c
 simp only at h1 h2 h3
 exact ⟨_,_,rfl,⟨rfl,by rw [inK_i64];simp only;omega⟩,_,_,rfl,⟨rfl,by rw [inK_i64];simp only;omega⟩,rfl,by rw [inK_i64];simp only;omega⟩
inductive Run where
 | on (out:List Sh3)
 | bad (i:Nat) (e:Int)
def noNode:Node:=⟨0,0,0,0,0,0,0,0,0,[],[],0,0,0,0,0,0,0,0⟩
def runS (l:List Node) (s:Sh3):Nat → Run
 | 0=>.on [s]
 | k+1=>match runS l s k with
  | .on out=>if (nextV (l.getD k noNode) out).2 ≠ 0 then .bad k (nextV (l.getD k noNode) out).2 else .on (out ++ [(nextV (l.getD k noNode) out).1])
  | .bad i e=>.bad i e
def endS (n:Nat):Run → List Sh3 × Int × Int
 | .on out=>(out,(n:Int),0)
 | .bad i e=>([],(i:Int),e)
def shapesV (l:List Node) (s:Sh3):List Sh3 × Int × Int :=
 if elems s.1 s.2.1 s.2.2=0 then ([],-1,5) else if l.length=0 then ([],-1,12) else if 8 < l.length then ([],-1,4)
 else endS l.length (runS l s l.length)
theorem runS_bad {l : List Node} {s : Sh3} {k i : Nat} {e : Int} (h : runS l s k = .bad i e) : ∀ m, k ≤ m → runS l s m = .bad i e := by
  intro m hm
  induction m with
  | zero => obtain rfl : k = 0 := by omega
            exact h
  | succ m ih =>
    by_cases hk : k = m + 1
    · subst hk; exact h
    · have := ih (by omega)
      show (match runS l s m with | .on out => _ | .bad i e => _) = _
      rw [this]
theorem runS_next {l:List Node} {s:Sh3} {k:Nat} {out:List Sh3} {d:Node} (h:runS l s k=.on out) (hd:l[k]?=some d) :
  runS l s (k+1)=if (nextV d out).2 ≠ 0 then .bad k (nextV d out).2 else .on (out ++ [(nextV d out).1]):=by
 have e:l.getD k noNode=d:=by rw [List.getD_eq_getElem?_getD,hd];rfl
 show (match runS l s k with|.on out=>_|.bad i e=>_)=_
 rw [h]
 simp only [e]
theorem tNode_size:tNode.size=19:=rfl
theorem Sl.node_at {w:World} {S:Nat → Prop} {A:Option Addr} {n cap:Nat} {l:List Node} (h:Sl tNode w S A n cap l) (i:Nat) (hi:i < n) :
  ∃ d b off W nw cw B nb cb,l[i]?=some d∧A=some ⟨b,off,none⟩∧S b∧b < w.heap.size∧NodeIn d∧Sl (tInt .i8) w S W nw cw d.w∧Sl (tInt .i32) w S B nb cb d.bias∧w.rangeAt b (off+i*19) [.int .i64 d.kind,.int .i64 d.a,.int .i64 d.b,.int .i64 d.k,.int .i64 d.s,.int .i64 d.p,.int .i64 d.out,.int .i8 d.za,.int .i8 d.zb,.slice W nw cw,.slice B nb cb,.int .i32 d.qm,.int .i64 d.qs,.int .i8 d.qz,.int .i32 d.rm,.int .i64 d.rs,.int .i8 d.rz,.int .i8 d.lo,.int .i8 d.hi]:=by
 obtain ⟨d,b,off,xs,hx,hA,hS,hb,hr,hl,hc⟩:=h.cells i hi (by decide)
 obtain ⟨W,nw,cw,B,nb,cb,rfl,hd,h1,h2⟩:=node_open hr
 rw [tNode_size] at hc
 exact ⟨d,b,off,W,nw,cw,B,nb,cb,hx,hA,hS,hb,hd,h1,h2,fun j v hv=>by have:=hc j v hv;rwa [← Nat.add_assoc] at this⟩
theorem ei_shape:EI Tryz.prog 49 24 (.agg #[.int .i64 0,.int .i64 0,.int .i64 0]) 3 24:=⟨Tryz.underlying49,by kernel_rfl,rfl,by decide⟩
theorem Own.one {α:Type} {t:Ty α} {W:World} {S:Nat → Prop} {E:TypeId} {base:Nat} {cs:Array Value} {x:α} (hb:base≤W.heap.size) (hr:t.rep (W.alloc (.cells cs E)) S cs.toList x) :
  Own t (W.alloc (.cells cs E)) S base E (.slice (some ⟨W.heap.size,0,none⟩) 1 1) 1 [x] :=
 have hl:=t.len hr
 ⟨cs.toList,⟨by simp [hl],.inr ⟨_,1,cs,rfl,hb,heap_alloc_new _ _,Nat.le_refl _,by decide,by simpa using hl,by rw [List.take_of_length_le (by omega)]⟩⟩,RowsOf.one hr⟩
def RetShapes (x:List Sh3 × Int × Int) (w:World) (e:Ending) (w':World):Prop :=
 ∃ A m cap,e=.returned (.tuple #[.slice A m cap,.int .i64 x.2.1,.int .i64 x.2.2])∧Sl tShape w' (bin w.heap.size w'.heap.size) A m cap x.1∧Below w.heap.size w w'
theorem RetShapes.none {i e:Int} {w w':World} (hb:Below w.heap.size w w'):RetShapes ([],i,e) w (.returned (.tuple #[.slice none 0 0,.int .i64 i,.int .i64 e])) w' :=
 ⟨Option.none,0,0,rfl,Sl.nil _ _ _,hb⟩
set_option maxHeartbeats 16000000 in
theorem shapes_any (A:Option Addr) (n cap:Nat) (l:List Node) (h v c:Int) (w:World) (hs:Sl tNode w (blo w.heap.size) A n cap l) (i0:InK .i64 h) (i1:InK .i64 v) (i2:InK .i64 c) (hf:∀ d ∈ l,d.w.length≤1000∧d.bias.length≤100) :
  Calls Tryz.prog 14 #[.slice A n cap,.agg #[.int .i64 h,.int .i64 v,.int .i64 c]] w (RetShapes (shapesV l (h,v,c)) w):=by
 have hn:=hs.n_eq
 obtain ⟨r,hr⟩:∃ r,shapesV l (h,v,c)=r:=⟨_,rfl⟩
 rw [hr]
 unfold shapesV at hr
 simp only [hn] at hr
 have RI:=zH (fun w=>shapeRight_any h c v w i0 i1 i2)
 have m0:=(elems_range h v c).1
 have GS:=zH (GoodS.of (h:=h) (v:=v) (c:=c))
 obtain ⟨m,hm⟩:∃ m,elems h v c=m:=⟨_,rfl⟩
 rw [hm] at hr RI m0 GS
 have VV:=zH hr.symm
 have H:=zH hs
 have HF:=zH hf
 have hmax:n≤9223372036854775807:=Nat.le_trans hs.cap_le hs.max_le
 clear hr hm hs hf i0 i1 i2 hn
 have FR:=zH (Far.refl w)
 obtain ⟨w1,hw_w1,BA,k_w1⟩:=nB w #[.int .i64 h,.int .i64 v,.int .i64 c] 24
 replace FR:=zH (FR.out.fut k_w1)
 clear k_w1
 have l1:w.heap.size < w1.heap.size:=by rw [← hw_w1];simp
 by_cases c1:m=0
 ·have t1:decide (0 < m)=false:=by simp;omega
  have R:=zH (show r=([],-1,5) by rw [VV.out,if_pos c1])
  clear c1 VV
  go_enter Tryz.func14,Tryz.ntmps14
  go_wp2_with (refine wpList_load_row rfl 24 (.tmp 3) rfl w.heap.size rfl _ _ (0,0) _ BA.out.heap Tryz.underlying24 rfl (by kernel_rfl) ?_)
  clear hw_w1
  refine (RI.out _).mono ?_
  rintro e w2 ⟨rfl,hb⟩
  replace FR:=zH (FR.out.fut hb)
  replace BA:=zH (BA.out.fut hb)
  clear hb
  go_wp2_with fail
  go_ret3
  rw [R.out]
  exact RetShapes.none FR.out.out
 have t1:decide (0 < m)=true:=by simp;omega
 have good:=zH (GS.out c1)
 by_cases c2:n=0
 ·have t2:((n:Int) == 0)=true:=by simp;omega
  have R:=zH (show r=([],-1,12) by rw [VV.out,if_neg c1,if_pos c2])
  clear c1 c2 VV
  go_enter Tryz.func14,Tryz.ntmps14
  go_wp2_with (refine wpList_load_row rfl 24 (.tmp 3) rfl w.heap.size rfl _ _ (0,0) _ BA.out.heap Tryz.underlying24 rfl (by kernel_rfl) ?_)
  clear hw_w1
  refine (RI.out _).mono ?_
  rintro e w2 ⟨rfl,hb⟩
  replace FR:=zH (FR.out.fut hb)
  replace BA:=zH (BA.out.fut hb)
  clear hb
  go_wp2_with fail
  go_ret3
  rw [R.out]
  exact RetShapes.none FR.out.out
 have t2:((n:Int) == 0)=false:=by simp;omega
 by_cases c3:8 < n
 ·have t3:decide (8 < (n:Int))=true:=by simp;omega
  have R:=zH (show r=([],-1,4) by rw [VV.out,if_neg c1,if_neg c2,if_pos c3])
  clear c1 c2 c3 VV
  go_enter Tryz.func14,Tryz.ntmps14
  go_wp2_with (refine wpList_load_row rfl 24 (.tmp 3) rfl w.heap.size rfl _ _ (0,0) _ BA.out.heap Tryz.underlying24 rfl (by kernel_rfl) ?_)
  clear hw_w1
  refine (RI.out _).mono ?_
  rintro e w2 ⟨rfl,hb⟩
  replace FR:=zH (FR.out.fut hb)
  replace BA:=zH (BA.out.fut hb)
  clear hb
  go_wp2_with fail
  go_ret3
  rw [R.out]
  exact RetShapes.none FR.out.out
 have t3:decide (8 < (n:Int))=false:=by simp;omega
 have hn8:n≤8:=by omega
 have V2:=zH (show r=endS n (runS l (h,v,c) n) by rw [VV.out,if_neg c1,if_neg c2,if_neg c3])
 clear c1 c2 c3 VV GS
 go_enter Tryz.func14,Tryz.ntmps14
 go_wp2_with (refine wpList_load_row rfl 24 (.tmp 3) rfl w.heap.size rfl _ _ (0,0) _ BA.out.heap Tryz.underlying24 rfl (by kernel_rfl) ?_)
 clear hw_w1
 refine (RI.out _).mono ?_
 rintro e w2 ⟨rfl,hb⟩
 replace FR:=zH (FR.out.fut hb)
 replace BA:=zH (BA.out.fut hb)
 clear hb
 clear RI
 go_wp2_with (first
  | (refine wpList_load_row rfl 24 (.tmp 3) rfl w.heap.size rfl _ _ (0,0) _ BA.out.heap Tryz.underlying24 rfl (by kernel_rfl) ?_)
  | (refine wpList_lit1 rfl (.tmp 24) rfl ei_shape #[.int .i64 h,.int .i64 v,.int .i64 c] rfl rfl (by decide) ?_))
 have z2:=FR.out.size
 go_loopw [7,28] (fun u i wr=>∃ (k:Nat) (out:List Sh3),k≤n∧i=.int .i64 k∧runS l (h,v,c) k=.on out∧Own tShape wr (fun _=>False) w.heap.size 24 u (k+1) out∧Below w.heap.size w wr) (fun _ i _=>n - (intOf i).toNat)
 case atStart=>exact ⟨0,[(h,v,c)],Nat.zero_le _,rfl,rfl,Own.one z2 good.out.rep,FR.out.out.alloc z2 _⟩
 case round =>
  clear FR BA z2 t1 t2 t3
  obtain ⟨k,out,hk,rfl,hrun,hown,hb⟩:=hrel
  have HB:=zH hb
  have ON:=zH hown
  have HR:=zH hrun
  obtain ⟨A1,c1,rfl,sl⟩:=hown.sl (S':=bin w.heap.size wr.heap.size) (by decide) (fun b h1 h2=>⟨h1,h2⟩) (fun _ h=>h.elim)
  have SL:=zH sl
  clear hb hown hrun sl
  by_cases hlt:k < n
  ·have p1:(k:Int) < (n:Int):=by omega
   obtain ⟨d,b0,off,W,nw,cw,B,nb,cb,hd,rfl,_,_,hin,hw8,hw32,hrg⟩:=(H.out.below HB.out (fun _ h=>h)).node_at k hlt
   have hsz:=HF.out d (List.mem_of_getElem? hd)
   have hnx:=runS_next HR.out hd
   have q8:=hw8.n_eq
   have q32:=hw32.n_eq
   have RG:=zH hrg
   have HIN:=zH hin
   have HW:=zH (hw8.more (blo_more HB.out.size))
   have HW32:=zH (hw32.more (blo_more HB.out.size))
   have NG:=zH (nextV_good (d:=d) (l:=out))
   obtain ⟨⟨⟨x1,x2,x3⟩,xe⟩,hx⟩:∃ x,nextV d out=x:=⟨_,rfl⟩
   rw [hx] at hnx NG
   simp only at hnx
   have NX:=zH hnx
   have HX:=zH hx
   clear hd hin hw8 hw32 hrg hnx hx
   have zr:=HB.out.size
   go_wp2_with (first
    | (refine wpList_load_mid rfl 44 (.tmp 31) rfl b0 (off+k*19) rfl _ _ RG.out Tryz.underlying44 rfl (by kernel_rfl) ?_)
    | (refine wpList_store_all rfl 44 (.tmp 9) (.tmp 32) rfl wr.heap.size (nN d.kind d.a d.b d.k d.s d.p d.out d.za d.zb W nw cw B nb cb d.qm d.qs d.qz d.rm d.rs d.rz d.lo d.hi) rfl rfl _ _ (Blk.now _ _ _ _ rfl) rfl (by kernel_rfl) (by simp [Value.oneCell']) ?_;intro w7 B7 g7;have G7:=zH (show Below wr.heap.size wr w7 from ((Below.refl _ _).alloc (Nat.le_refl _) _).grown g7 (by simp) (fun k h=>by have:=Option.some.inj h;omega));have BD:=zH B7;clear B7 g7)
    | (refine wpList_load_row rfl 44 (.tmp 9) rfl wr.heap.size rfl _ _ (0,0) _ BD.out.heap Tryz.underlying44 rfl (by kernel_rfl) ?_))
   have z7:=G7.out.size
   refine (next_any d W nw cw B nb cb A1 (k+1) c1 out w7 HIN.out (HW.out.later G7.out (Nat.le_refl _)) (HW32.out.later G7.out (Nat.le_refl _)) (by omega) (by omega) ((SL.out.more bin_blo).later G7.out (Nat.le_refl _))).mono ?_
   rintro e w8 ⟨he,hb⟩
   rw [HX.out] at he
   simp only [retS] at he
   subst he
   have G8:=zH (below_later hb G7.out)
   have O8:=zH ((ON.out.below G7.out (Nat.le_refl _) (fun _ h=>h.elim)).below hb (Nat.le_refl _) (fun _ h=>h.elim))
   have z8:=hb.size
   clear hb HX
   by_cases hxe:xe=0
   ·subst hxe
    have t4:((0:Int) != 0)=false:=rfl
    have gx:=zH (NG.out rfl)
    rw [if_neg (by decide)] at NX
    clear NG
    go_wp2_with (first
     | (refine wpList_store_all rfl 24 (.tmp 10) (.tmp 37) rfl w8.heap.size #[.int .i64 x1,.int .i64 x2,.int .i64 x3] rfl rfl _ _ (Blk.now _ _ _ _ rfl) rfl (by kernel_rfl) (by simp [Value.oneCell']) ?_;intro w9 B9 g9;have G9:=zH (show Below w8.heap.size w8 w9 from ((Below.refl _ _).alloc (Nat.le_refl _) _).grown g9 (by simp) (fun k h=>by have:=Option.some.inj h;omega));have BX:=zH B9;clear B9 g9)
     | (refine wpList_load_row rfl 24 (.tmp 10) rfl w8.heap.size rfl _ _ (0,0) _ BX.out.heap Tryz.underlying24 rfl (by kernel_rfl) ?_)
     | (refine wpList_lit1 rfl (.tmp 44) rfl ei_shape #[.int .i64 x1,.int .i64 x2,.int .i64 x3] rfl rfl (by decide) ?_)
     | (at_builtin;refine wpList_push (W:=w9) (cs:=#[.int .i64 x1,.int .i64 x2,.int .i64 x3]) (E:=24) (t:=tShape) (S:=fun _=>False) (base:=w.heap.size) rfl (.tmp 43) (.tmp 45) rfl ei_shape rfl (O8.out.below G9.out (Nat.le_refl _) (fun _ h=>h.elim)) 1 rfl (x1,x2,x3) gx.out.rep (by unfold maxLen;omega) (by omega) (by have:=G9.out.size;omega) (fun _ h=>h.elim) ?_;intro v' wz ownz gz atz))
    have bz:=(below_later G9.out (below_later G8.out HB.out)).grown gz (by have:=G9.out.size;omega) (fun j hj=>(O8.out.lt j hj).1)
    exact ⟨⟨k+1,out ++ [(x1,x2,x3)],by omega,by go_num,NX.out,ownz,bz⟩,by simp [intOf];omega⟩
   ·have t4:(xe != 0)=true:=by simpa using hxe
    rw [if_pos hxe] at NX
    have R:=zH (show r=([],(k:Int),xe) by rw [V2.out,runS_bad NX.out n (by omega)];rfl)
    clear hxe NG NX V2
    go_wp2_with (refine wpList_store_all rfl 24 (.tmp 10) (.tmp 37) rfl w8.heap.size #[.int .i64 x1,.int .i64 x2,.int .i64 x3] rfl rfl _ _ (Blk.now _ _ _ _ rfl) rfl (by kernel_rfl) (by simp [Value.oneCell']) ?_;intro w9 B9 g9;have G9:=zH (show Below w8.heap.size w8 w9 from ((Below.refl _ _).alloc (Nat.le_refl _) _).grown g9 (by simp) (fun k h=>by have:=Option.some.inj h;omega));clear B9 g9)
    go_ret3
    rw [R.out]
    exact RetShapes.none (below_later G9.out (below_later G8.out HB.out))
  ·obtain rfl:k=n:=by omega
   have R:=zH (show r=(out,(k:Int),0) by rw [V2.out,HR.out];rfl)
   clear hlt hk V2
   go_wp2_with fail
   go_ret3
   rw [R.out]
   exact ⟨A1,_,c1,rfl,SL.out,HB.out⟩
end Go.Proofs.YtjkmjpjknmghlaaGreat
