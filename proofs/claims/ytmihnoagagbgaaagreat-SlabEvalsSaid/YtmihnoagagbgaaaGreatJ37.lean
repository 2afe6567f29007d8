/-
  What is wrong with a node (layer 25): kinds.Check, the document's Check.
  The shape of the next value (layer 27): next.
  The shapes of all values of nodes (layer 27), in numbers: node by node.
  The shapes of all values (layer 27): graph.Shapes.
  tensor.Of of a tensor that is right (layer 5).
  What shapes that are right tell of a block's nodes (layer 27).
-/
import Derived.Test.YtmihnoagagbgaaaGreatJ35
import Derived.Test.YtmihnoagagbgaaaGreatJ36
set_option linter.unusedVariables false
set_option linter.unusedSimpArgs false
set_option maxRecDepth 100000
set_option maxHeartbeats 16000000
namespace Go.Proofs.YtmihnoagagbgaaaGreat
open Go.RowKit Go.ChangeShapes Go.WideShapes Tryz
set_option maxRecDepth 100000
set_option maxHeartbeats 16000000
theorem ro (d:af) (W:QA) (nw cw:Nat) (B:QA) (nb cb:Nat) (w:World) (hk:cS d.kind) (hw:xA w W nw cw d.w) (hb:xB w B nb cb d.bias) (mw:nw≤1048576) (mb:nb≤1048576) :
  Calls prog 79 #[.agg (nN d.kind d.a d.b d.k d.s d.p d.out d.za d.zb W nw cw B nb cb d.qm d.qs d.qz d.rm d.rs d.rz d.lo d.hi)] w (oH (bv d) w):=by
 obtain ⟨kind,a,b,k,s,p,out,za,zb,wl,bl,qm,qs,qz,rm,rs,rz,lo,hi⟩:=d
 unfold cS at hk
 simp only at hk hw hb ⊢
 exact sJ kind a b k s p out za zb qm qs qz rm rs rz lo hi wl bl W nw cw B nb cb w oM hw hb mw mb
theorem nK {k:Int} (h:k < 1 ∨ 9 < k):d8 k=ByteArray.mk #[]:=by
 unfold d8
 rw [if_neg oM,if_neg oM,if_neg oM,if_neg oM,if_neg oM,if_neg oM,if_neg oM,if_neg oM,if_neg oM]
theorem ig (k:Int):(d8 k).toList.isEmpty=!decide (cS k):=by
 by_cases h:cS k
 ·rw [qT h]
  unfold cS at h
  have:=eI ⟨by omega,h.2⟩
  rcases this with rfl|rfl|rfl|rfl|rfl|rfl|rfl|rfl|rfl|rfl
  ·omega
  all_goals (rw [ByteArray.toList_eq];rfl)
 ·rw [dF h]
  unfold cS at h
  rw [nK oM,ByteArray.toList_eq];rfl
theorem jy (d:af) (hk:cS d.kind) :
  (decide (d.w=(bv d).w) && decide (d.bias=(bv d).bias) && ([d.kind,d.a,d.b,d.k,d.s,d.p,d.out,0] == [(bv d).kind,(bv d).a,(bv d).b,(bv d).k,(bv d).s,(bv d).p,(bv d).out,0]) && ([d.za,d.zb,d.lo,d.hi] == [(bv d).za,(bv d).zb,(bv d).lo,(bv d).hi]) && ([d.qm,d.qs,d.qz] == [(bv d).qm,(bv d).qs,(bv d).qz]) && ([d.rm,d.rs,d.rz] == [(bv d).rm,(bv d).rs,(bv d).rz]))=!decide (aW d):=by
 obtain ⟨kind,a,b,k,s,p,out,za,zb,wl,bl,qm,qs,qz,rm,rs,rz,lo,hi⟩:=d
 unfold cS at hk
 have hc:=eI (k:=kind) ⟨by simp only at hk;omega,hk.2⟩
 simp only at hk
 rcases hc with rfl|rfl|rfl|rfl|rfl|rfl|rfl|rfl|rfl|rfl
 ·omega
 all_goals
  rw [Bool.eq_iff_iff]
  simp only [bv,aW,bY,bS,aA,Bool.and_eq_true,Bool.not_eq_true',decide_eq_true_eq,decide_eq_false_iff_not,beq_iff_eq,List.cons.injEq,and_true]
  by_cases h1:wl=[] <;> by_cases h2:bl=[] <;> simp [h1,h2] <;> omega
def bu (d:af):Int :=
 if ¬ cS d.kind then 6 else if aW d then 2
 else if (aA d.kind=true∧aq d.qm d.qs=false) ∨ (d.kind=6∧aq d.rm d.rs=false) then 7
 else if aA d.kind=true∧d.hi < d.lo then 2 else 0
theorem sy (d:af) (W:QA) (nw cw:Nat) (B:QA) (nb cb:Nat) (w:World) (hk:cS d.kind) (hnw:nw=d.w.length) (hnb:nb=d.bias.length) (mw:nw≤maxLen) (mb:nb≤maxLen) :
  Calls prog 53 #[.agg (nD d W nw cw B nb cb)] w fun e w'=>e=.returned (.bool (decide (aW d)))∧Below w w w':=by
 unfold cS at hk
 have hc:=eI (k:=d.kind) ⟨by omega,hk.2⟩
 rcases hc with h|h|h|h|h|h|h|h|h|h
 ·omega
 ·exact tO d W nw cw B nb cb w h hnw hnb mw mb
 ·exact tP d W nw cw B nb cb w h hnw hnb mw mb
 ·exact tQ d W nw cw B nb cb w h hnw hnb mw mb
 ·exact tR d W nw cw B nb cb w h hnw hnb mw mb
 ·exact tS d W nw cw B nb cb w h hnw hnb mw mb
 ·exact tT d W nw cw B nb cb w h hnw hnb mw mb
 ·exact tU d W nw cw B nb cb w h hnw hnb mw mb
 ·exact tV d W nw cw B nb cb w h hnw hnb mw mb
 ·exact tW d W nw cw B nb cb w h hnw hnb mw mb
theorem iO {k:Int} (h:aA k=false):k ≠ 6:=by rintro rfl;cases h
theorem jt (d:af) (W:QA) (nw cw:Nat) (B:QA) (nb cb:Nat) (w:World) (hw:xA w W nw cw d.w) (hb:xB w B nb cb d.bias) (mw:nw≤1048576) (mb:nb≤1048576) :
  Calls prog 44 #[.agg (nD d W nw cw B nb cb)] w fun e w'=>e=.returned (.int .i64 (bu d))∧Below w w w':=by
 obtain ⟨r,hr⟩:∃ r,bu d=r:=⟨_,rfl⟩
 rw [hr]
 unfold bu at hr
 have V:=zH hr.symm
 clear hr
 have HW:=zH hw
 have HB:=zH hb
 clear hw hb
 have NM:=zH (fun w=>ke d.kind w)
 have SC:=zH (fun w=>iT d.kind w)
 have FQ:=zH (fun w=>cR d.qm d.qs d.qz w)
 have FQR:=zH (fun w=>cR d.rm d.rs d.rz w)
 have NT:=zH (ig d.kind)
 have FR:=zW w
 obtain ⟨w1,yw1,BN,yk1⟩:=nB w (nD d W nw cw B nb cb) 42
 obtain ⟨FR,HW,HB⟩:=uz3 yk1 FR HW HB
 clear yk1
 have c0:=BN.o.cell 0
 obtain ⟨nm,hnm⟩:∃ x,d8 d.kind=x:=⟨_,rfl⟩
 rw [hnm] at NM NT
 clear hnm
 have PL:=zH (fun w' (hk:cS d.kind) (hb:Below w1 w1 w')=>ro d W nw cw B nb cb w' hk (HW.o.fut hb) (HB.o.fut hb) mw mb)
 by_cases hk:cS d.kind
 rotate_left
 ·have tn:nm.toList.isEmpty=true:=by
   have:=NT.o
   rw [dF hk] at this
   exact this
  have R:=zH (show r=6 by rw [V.o,if_pos hk])
  clear hk V NT
  go_in
  go_wp2_with fail
  refine qM (NM.o _) fun w2 hb=>?_
  replace FR:=zF hb FR
  clear hb
  clear c0 yw1
  go_wp2
  go_ret
  exact ⟨by rw [R.o];rfl,FR.u⟩
 have tn:nm.toList.isEmpty=false:=by
  have:=NT.o
  rw [qT hk] at this
  exact this
 clear NT
 by_cases hm:aW d
 ·have R:=zH (show r=2 by rw [V.o,if_neg (fun h=>h hk),if_pos hm])
  have PS:=zH (jy d hk)
  have dm:decide (aW d)=true:=qT hm
  rw [dm] at PS
  clear V hm dm
  go_in
  go_wp2_with fail
  refine qM (NM.o _) fun w2 hb=>?_
  have K2:=zH hb
  obtain ⟨FR,HW,HB,BN⟩:=uz4 hb FR HW HB BN
  clear hb
  clear c0 yw1
  go_wp2_with fail
  refine wp_region_held_drew (S:=fun w'=>Blk w' w.heap.size 42 (nD d W nw cw B nb cb)∧Below w2 w2 w') kM ?_ (fun hS=>?_)
  ·exact ⟨BN.o.drew,(qB _ _).drew⟩
  refine tkH 0 rfl (yP (nD d W nw cw B nb cb) (fun w hs=>hs.1)) hS ?_
  try simp only [pX]
  refine tkH 1 rfl (yP (nD d W nw cw B nb cb) (fun w hs=>hs.1)) hS ?_
  try simp only [pX]
  refine rH 2 rfl (fun K hK=>?_)
  go_simp
  refine (PL.o _ hk (ag (qB _ _).drew K2.o)).mono ?_;rintro e w3 ⟨W1,n1,c1,B1,n2,c2,rfl,s1,s2,hb⟩;have S1:=zH s1;have S2:=zH s2;have K3:=zH (ai (qB _ _).drew hb (lR _));clear s1 s2
  refine xK hK (zR hb hS) fun hS=>?_
  clear hK K
  refine rH 3 rfl (fun K hK=>?_)
  go_simp
  refine qM (jH _ _ _ _ _ _ d.kind d.a d.b d.k d.s d.p d.out d.za d.zb d.qm d.qs d.qz d.rm d.rs d.rz d.lo d.hi _ _ _ _ _ _ _ _ _ _ _ _ _ _ _ _ _ d.w d.bias _ _ W nw cw B nb cb W1 n1 c1 B1 n2 c2 _ (HW.o.fut K3.o) (HB.o.fut K3.o) S1.o.old S2.o.old rfl rfl rfl rfl rfl rfl) fun w4 hb=>?_;rw [PS.o]
  refine xK hK (zR hb hS) fun hS=>?_
  clear hK K
  refine kH' 4 hS ?_
  refine kH' 5 hS ?_
  refine wpAnyH_done kM ?_ _
  have hb:=hS.2
  obtain ⟨FR,HW,HB,BN⟩:=uz4 hb FR HW HB BN
  clear hb
  clear hS S1 S2 K3
  go_wp2
  go_ret
  exact ⟨by rw [R.o];rfl,FR.u⟩
 have PS:=zH (jy d hk)
 have dm:decide (aW d)=false:=dF hm
 rw [dm] at PS
 have V2:=zH (show r=(if (aA d.kind=true∧aq d.qm d.qs=false) ∨ (d.kind=6∧aq d.rm d.rs=false) then 7 else if aA d.kind=true∧d.hi < d.lo then 2 else 0) by rw [V.o,if_neg (fun h=>h hk),if_neg hm])
 clear V hm dm
 go_in
 go_wp2_with fail
 refine qM (NM.o _) fun w2 hb=>?_
 have K2:=zH hb
 obtain ⟨FR,HW,HB,BN⟩:=uz4 hb FR HW HB BN
 clear hb
 clear c0 yw1
 go_wp2_with fail
 refine wp_region_held_drew (S:=fun w'=>Blk w' w.heap.size 42 (nD d W nw cw B nb cb)∧Below w2 w2 w') kM ?_ (fun hS=>?_)
 ·exact ⟨BN.o.drew,(qB _ _).drew⟩
 refine tkH 0 rfl (yP (nD d W nw cw B nb cb) (fun w hs=>hs.1)) hS ?_
 try simp only [pX]
 refine tkH 1 rfl (yP (nD d W nw cw B nb cb) (fun w hs=>hs.1)) hS ?_
 try simp only [pX]
 refine rH 2 rfl (fun K hK=>?_)
 go_simp
 refine (PL.o _ hk (ag (qB _ _).drew K2.o)).mono ?_;rintro e w3 ⟨W1,n1,c1,B1,n2,c2,rfl,s1,s2,hb⟩;have S1:=zH s1;have S2:=zH s2;have K3:=zH (ai (qB _ _).drew hb (lR _));clear s1 s2
 refine xK hK (zR hb hS) fun hS=>?_
 clear hK K
 refine rH 3 rfl (fun K hK=>?_)
 go_simp
 refine qM (jH _ _ _ _ _ _ d.kind d.a d.b d.k d.s d.p d.out d.za d.zb d.qm d.qs d.qz d.rm d.rs d.rz d.lo d.hi _ _ _ _ _ _ _ _ _ _ _ _ _ _ _ _ _ d.w d.bias _ _ W nw cw B nb cb W1 n1 c1 B1 n2 c2 _ (HW.o.fut K3.o) (HB.o.fut K3.o) S1.o.old S2.o.old rfl rfl rfl rfl rfl rfl) fun w4 hb=>?_;rw [PS.o]
 refine xK hK (zR hb hS) fun hS=>?_
 clear hK K
 refine kH' 4 hS ?_
 refine kH' 5 hS ?_
 refine wpAnyH_done kM ?_ _
 have hb:=hS.2
 obtain ⟨FR,HW,HB,BN⟩:=uz4 hb FR HW HB BN
 clear hb
 clear hS S1 S2 K3
 clear K2 HW HB PL PS NM
 obtain ⟨sc,hsc⟩:∃ x,aA d.kind=x:=⟨_,rfl⟩
 obtain ⟨q,hq⟩:∃ x,aq d.qm d.qs=x:=⟨_,rfl⟩
 obtain ⟨qr,hqr⟩:∃ x,aq d.rm d.rs=x:=⟨_,rfl⟩
 have KW:=zH (iO (k:=d.kind))
 rw [hsc] at SC V2 KW
 rw [hq] at FQ V2
 rw [hqr] at FQR V2
 clear hsc hq hqr hk tn
 obtain ⟨x0,x11,x12,x13,x14,x15,x16,x17,x18⟩:=uc9 BN 0 11 12 13 14 15 16 17 18
 cases sc
 case false =>
  have k6:=KW.o rfl
  have t6:(d.kind == 6)=false:=by simpa using k6
  have K6:=zH k6
  clear k6
  go_wp2_with (go_at_call 80;refine (SC.o _).mono ?_;rintro e w' ⟨rfl,rfl⟩)
  go_ret
  exact ⟨by rw [V2.o];simp [K6.o],FR.u⟩
 case true =>
  clear KW
  cases q
  case false =>
   go_wp2_with (go_at_call 80;refine (SC.o _).mono ?_;rintro e w' ⟨rfl,rfl⟩)
   refine qM (FQ.o _) fun w5 hb=>?_
   clear x0 x11 x12 x13 x14 x15 x16 x17 x18
   replace FR:=zF hb FR
   clear hb
   go_wp2
   go_ret
   exact ⟨by rw [V2.o];simp,FR.u⟩
  case true =>
   go_wp2_with (go_at_call 80;refine (SC.o _).mono ?_;rintro e w' ⟨rfl,rfl⟩)
   refine qM (FQ.o _) fun w5 hb=>?_
   clear x0 x11 x12 x13 x14 x15 x16 x17 x18
   obtain ⟨FR,BN⟩:=uz2 hb FR BN
   clear hb
   obtain ⟨x0,x11,x12,x13,x14,x15,x16,x17,x18⟩:=uc9 BN 0 11 12 13 14 15 16 17 18
   by_cases k6:d.kind=6
   ·have t6:(d.kind == 6)=true:=by simpa using k6
    have K6:=zH k6
    clear k6
    cases qr
    case false =>
     go_wp2_with fail
     refine qM (FQR.o _) fun w6 hb=>?_
     clear x0 x11 x12 x13 x14 x15 x16 x17 x18
     replace FR:=zF hb FR
     clear hb
     go_wp2
     go_ret
     exact ⟨by rw [V2.o];simp [K6.o],FR.u⟩
    case true =>
     go_wp2_with fail
     refine qM (FQR.o _) fun w6 hb=>?_
     clear x0 x11 x12 x13 x14 x15 x16 x17 x18
     obtain ⟨FR,BN⟩:=uz2 hb FR BN
     clear hb
     obtain ⟨x0,x11,x12,x13,x14,x15,x16,x17,x18⟩:=uc9 BN 0 11 12 13 14 15 16 17 18
     by_cases hl:d.hi < d.lo
     ·have tl:decide (d.hi < d.lo)=true:=qT hl
      have HL:=zH hl
      clear hl
      go_wp2_with (go_at_call 80;refine (SC.o _).mono ?_;rintro e w' ⟨rfl,rfl⟩)
      go_ret
      exact ⟨by rw [V2.o];simp [HL.o,K6.o],FR.u⟩
     ·have tl:decide (d.hi < d.lo)=false:=dF hl
      have HL:=zH hl
      clear hl
      go_wp2_with (go_at_call 80;refine (SC.o _).mono ?_;rintro e w' ⟨rfl,rfl⟩)
      go_ret
      exact ⟨by rw [V2.o];simp [HL.o,K6.o],FR.u⟩
   ·have t6:(d.kind == 6)=false:=by simpa using k6
    have K6:=zH k6
    clear k6
    by_cases hl:d.hi < d.lo
    ·have tl:decide (d.hi < d.lo)=true:=qT hl
     have HL:=zH hl
     clear hl
     go_wp2_with (go_at_call 80;refine (SC.o _).mono ?_;rintro e w' ⟨rfl,rfl⟩)
     go_ret
     exact ⟨by rw [V2.o];simp [HL.o,K6.o],FR.u⟩
    ·have tl:decide (d.hi < d.lo)=false:=dF hl
     have HL:=zH hl
     clear hl
     go_wp2_with (go_at_call 80;refine (SC.o _).mono ?_;rintro e w' ⟨rfl,rfl⟩)
     go_ret
     exact ⟨by rw [V2.o];simp [HL.o,K6.o],FR.u⟩
theorem jB (d:af) (W:QA) (nw cw:Nat) (B:QA) (nb cb:Nat) (w:World) (hw:xA w W nw cw d.w) (hb:xB w B nb cb d.bias) (mw:nw≤1048576) (mb:nb≤1048576) :
  Calls prog 26 #[.agg (nD d W nw cw B nb cb)] w fun e w'=>e=.returned (.int .i64 (bu d))∧Below w w w':=by
 obtain ⟨r,hr⟩:∃ r,bu d=r:=⟨_,rfl⟩
 rw [hr]
 unfold bu at hr
 have V:=zH hr.symm
 clear hr
 have HW:=zH hw
 have HB:=zH hb
 clear hw hb
 have NM:=zH (fun w=>rA d.kind w)
 have SC:=zH (fun w=>bZ d.kind w)
 have FQ:=zH (fun w=>bK d.qm d.qs d.qz w)
 have FQR:=zH (fun w=>bK d.rm d.rs d.rz w)
 have NT:=zH (ig d.kind)
 have FR:=zW w
 obtain ⟨w1,yw1,BN,yk1⟩:=nB w (nD d W nw cw B nb cb) 42
 obtain ⟨FR,HW,HB⟩:=uz3 yk1 FR HW HB
 clear yk1
 have c0:=BN.o.cell 0
 obtain ⟨nm,hnm⟩:∃ x,d8 d.kind=x:=⟨_,rfl⟩
 rw [hnm] at NM NT
 clear hnm
 have MO:=zH (fun w' (hk:cS d.kind)=>sy d W nw cw B nb cb w' hk HW.o.n_eq.symm HB.o.n_eq.symm (by unfold maxLen;omega) (by unfold maxLen;omega))
 by_cases hk:cS d.kind
 rotate_left
 ·have tn:nm.toList.isEmpty=true:=by
   have:=NT.o
   rw [dF hk] at this
   exact this
  have R:=zH (show r=6 by rw [V.o,if_pos hk])
  clear hk V NT
  go_in
  go_wp2_with fail
  refine qM (NM.o _) fun w2 hb=>?_
  replace FR:=zF hb FR
  clear hb
  clear c0 yw1
  go_wp2
  go_ret
  exact ⟨by rw [R.o];rfl,FR.u⟩
 have tn:nm.toList.isEmpty=false:=by
  have:=NT.o
  rw [qT hk] at this
  exact this
 clear NT
 by_cases hm:aW d
 ·have R:=zH (show r=2 by rw [V.o,if_neg (fun h=>h hk),if_pos hm])
  have dm:decide (aW d)=true:=qT hm
  replace MO:=zH (fun w'=>MO.o w' hk)
  rw [dm] at MO
  clear V hm dm
  go_in
  go_wp2_with fail
  refine qM (NM.o _) fun w2 hb=>?_
  have K2:=zH hb
  obtain ⟨FR,HW,HB,BN⟩:=uz4 hb FR HW HB BN
  clear hb
  clear c0 yw1
  go_wp2_with (refine lGJ19 BN.o ?_)
  refine qM (MO.o _) fun w4 hb=>?_
  obtain ⟨FR,HW,HB,BN⟩:=uz4 hb FR HW HB BN
  clear hb
  go_wp2
  go_ret
  exact ⟨by rw [R.o];rfl,FR.u⟩
 have dm:decide (aW d)=false:=dF hm
 replace MO:=zH (fun w'=>MO.o w' hk)
 rw [dm] at MO
 have V2:=zH (show r=(if (aA d.kind=true∧aq d.qm d.qs=false) ∨ (d.kind=6∧aq d.rm d.rs=false) then 7 else if aA d.kind=true∧d.hi < d.lo then 2 else 0) by rw [V.o,if_neg (fun h=>h hk),if_neg hm])
 clear V hm dm
 go_in
 go_wp2_with fail
 refine qM (NM.o _) fun w2 hb=>?_
 have K2:=zH hb
 obtain ⟨FR,HW,HB,BN⟩:=uz4 hb FR HW HB BN
 clear hb
 clear c0 yw1
 go_wp2_with (refine lGJ19 BN.o ?_)
 refine qM (MO.o _) fun w4 hb=>?_
 obtain ⟨FR,HW,HB,BN⟩:=uz4 hb FR HW HB BN
 clear hb
 clear K2 HW HB MO NM
 obtain ⟨sc,hsc⟩:∃ x,aA d.kind=x:=⟨_,rfl⟩
 obtain ⟨q,hq⟩:∃ x,aq d.qm d.qs=x:=⟨_,rfl⟩
 obtain ⟨qr,hqr⟩:∃ x,aq d.rm d.rs=x:=⟨_,rfl⟩
 have KW:=zH (iO (k:=d.kind))
 rw [hsc] at SC V2 KW
 rw [hq] at FQ V2
 rw [hqr] at FQR V2
 clear hsc hq hqr hk tn
 obtain ⟨x0,x11,x12,x13,x14,x15,x16,x17,x18⟩:=uc9 BN 0 11 12 13 14 15 16 17 18
 cases sc
 case false =>
  have k6:=KW.o rfl
  have t6:(d.kind == 6)=false:=by simpa using k6
  have K6:=zH k6
  clear k6
  go_wp2_with (go_at_call 54;refine (SC.o _).mono ?_;rintro e w' ⟨rfl,rfl⟩)
  go_ret
  exact ⟨by rw [V2.o];simp [K6.o],FR.u⟩
 case true =>
  clear KW
  cases q
  case false =>
   go_wp2_with (go_at_call 54;refine (SC.o _).mono ?_;rintro e w' ⟨rfl,rfl⟩)
   refine qM (FQ.o _) fun w5 hb=>?_
   clear x0 x11 x12 x13 x14 x15 x16 x17 x18
   replace FR:=zF hb FR
   clear hb
   go_wp2
   go_ret
   exact ⟨by rw [V2.o];simp,FR.u⟩
  case true =>
   go_wp2_with (go_at_call 54;refine (SC.o _).mono ?_;rintro e w' ⟨rfl,rfl⟩)
   refine qM (FQ.o _) fun w5 hb=>?_
   clear x0 x11 x12 x13 x14 x15 x16 x17 x18
   obtain ⟨FR,BN⟩:=uz2 hb FR BN
   clear hb
   obtain ⟨x0,x11,x12,x13,x14,x15,x16,x17,x18⟩:=uc9 BN 0 11 12 13 14 15 16 17 18
   by_cases k6:d.kind=6
   ·have t6:(d.kind == 6)=true:=by simpa using k6
    have K6:=zH k6
    clear k6
    cases qr
    case false =>
     go_wp2_with fail
     refine qM (FQR.o _) fun w6 hb=>?_
     clear x0 x11 x12 x13 x14 x15 x16 x17 x18
     replace FR:=zF hb FR
     clear hb
     go_wp2
     go_ret
     exact ⟨by rw [V2.o];simp [K6.o],FR.u⟩
    case true =>
     go_wp2_with fail
     refine qM (FQR.o _) fun w6 hb=>?_
     clear x0 x11 x12 x13 x14 x15 x16 x17 x18
     obtain ⟨FR,BN⟩:=uz2 hb FR BN
     clear hb
     obtain ⟨x0,x11,x12,x13,x14,x15,x16,x17,x18⟩:=uc9 BN 0 11 12 13 14 15 16 17 18
     by_cases hl:d.hi < d.lo
     ·have tl:decide (d.hi < d.lo)=true:=qT hl
      have HL:=zH hl
      clear hl
      go_wp2_with (go_at_call 54;refine (SC.o _).mono ?_;rintro e w' ⟨rfl,rfl⟩)
      go_ret
      exact ⟨by rw [V2.o];simp [HL.o,K6.o],FR.u⟩
     ·have tl:decide (d.hi < d.lo)=false:=dF hl
      have HL:=zH hl
      clear hl
      go_wp2_with (go_at_call 54;refine (SC.o _).mono ?_;rintro e w' ⟨rfl,rfl⟩)
      go_ret
      exact ⟨by rw [V2.o];simp [HL.o,K6.o],FR.u⟩
   ·have t6:(d.kind == 6)=false:=by simpa using k6
    have K6:=zH k6
    clear k6
    by_cases hl:d.hi < d.lo
    ·have tl:decide (d.hi < d.lo)=true:=qT hl
     have HL:=zH hl
     clear hl
     go_wp2_with (go_at_call 54;refine (SC.o _).mono ?_;rintro e w' ⟨rfl,rfl⟩)
     go_ret
     exact ⟨by rw [V2.o];simp [HL.o,K6.o],FR.u⟩
    ·have tl:decide (d.hi < d.lo)=false:=dF hl
     have HL:=zH hl
     clear hl
     go_wp2_with (go_at_call 54;refine (SC.o _).mono ?_;rintro e w' ⟨rfl,rfl⟩)
     go_ret
     exact ⟨by rw [V2.o];simp [HL.o,K6.o],FR.u⟩
abbrev Sh3:=Int × Int × Int
theorem Sl.shape_at {w:World} {S:Nat → Prop} {A:QA} {n cap:Nat} {l:List Sh3} (h:Sl dC w S A n cap l) (i:Nat) (hi:i < n) :
  ∃ b off,A=some ⟨b,off,none⟩∧S b∧b < w.heap.size∧InK .i64 (l.getD i (0,0,0)).1∧InK .i64 (l.getD i (0,0,0)).2.1∧InK .i64 (l.getD i (0,0,0)).2.2∧l[i]?=some (l.getD i (0,0,0)) ∧
   w.rangeAt b (off+i*3) [.int .i64 (l.getD i (0,0,0)).1,.int .i64 (l.getD i (0,0,0)).2.1,.int .i64 (l.getD i (0,0,0)).2.2]:=by
 obtain ⟨x,b,off,xs,hx,hA,hS,hb,hr,hl,hc⟩:=h.cells i hi dM
 obtain ⟨_,_,rfl,⟨rfl,h1⟩,_,_,rfl,⟨rfl,h2⟩,rfl,h3⟩:=hr
 have e:l.getD i (0,0,0)=x:=by rw [gD,hx];rfl
 rw [e]
 refine ⟨b,off,hA,hS,hb,h1,h2,h3,hx,fun j v hv=>?_⟩
 have:=hc j v hv
 rwa [show dC.size=3 from rfl,← Nat.add_assoc] at this
def bs (d:af) (l:List Sh3):ShE :=
 if bu d ≠ 0 then noS (bu d) else if bm d l.length=false then noS 8
 else aD (l.getD d.a.toNat (0,0,0)).1 (l.getD d.a.toNat (0,0,0)).2.1 (l.getD d.a.toNat (0,0,0)).2.2 (l.getD (aU d).toNat (0,0,0)).1 (l.getD (aU d).toNat (0,0,0)).2.1 (l.getD (aU d).toNat (0,0,0)).2.2 d
theorem jl {d:af} (h:bu d=0):1≤d.kind∧d.kind≤9:=by
 unfold bu at h
 by_cases hk:cS d.kind
 ·exact hk
 ·rw [if_pos hk] at h;cases h
theorem gV {d:af} {n:Int} (h:bm d n=true):0≤d.a∧d.a < n∧0≤aU d∧aU d < n:=by
 unfold bm at h
 unfold aU
 simp only [Bool.and_eq_true,Bool.or_eq_true,decide_eq_true_eq] at h
 split <;> omega
theorem sC (d:af) (W:QA) (nw cw:Nat) (B:QA) (nb cb:Nat) (A:QA) (n cap:Nat) (l:List Sh3) (w:World) (hd:aE d) (hw:xA w W nw cw d.w) (hb:xB w B nb cb d.bias) (mw:nw≤1048576) (mb:nb≤1048576) (hs:Sl dC w (blo w) A n cap l) :
  Calls prog 37 #[.agg (nD d W nw cw B nb cb),.slice A n cap] w fun e w'=>e=aL (bs d l)∧Below w w w':=by
 have hn:=hs.n_eq
 have hm:n≤9223372036854775807:=lT hs.cap_le hs.max_le
 obtain ⟨r,hr⟩:∃ r,bs d l=r:=⟨_,rfl⟩
 rw [hr]
 unfold bs at hr
 rw [hn] at hr
 have CK:=zH (fun (w':World) (hb':Below w w w')=>jt d W nw cw B nb cb w' (hw.later hb' (lR _)) (hb.later hb' (lR _)) mw mb)
 have TH:=zH (fun w=>kG d W nw cw B nb cb n w hd.a hd.b)
 have OF:=zH (fun w=>tZ d W nw cw B nb cb w hd.a hd.b)
 have HW:=zH hw.n_eq
 have HB:=zH hb.n_eq
 have HS:=zH hs
 have HD:=zH hd
 have KD:=zH (jl (d:=d))
 have TB:=zH (gV (d:=d) (n:=n))
 have VV:=zH hr.symm
 clear hr hw hb hs hd hn
 obtain ⟨ck,hck⟩:∃ x,bu d=x:=⟨_,rfl⟩
 obtain ⟨th,hth⟩:∃ x,bm d n=x:=⟨_,rfl⟩
 rw [hck] at CK KD VV
 rw [hth] at TH TB VV
 clear hck hth
 have FR:=zW w
 obtain ⟨w1,w2,yw1,yw2,l1,l2,BN,BR,yk2⟩:=bk2 w (nD d W nw cw B nb cb) 42 (sN 0 0 0) 24
 replace FR:=zF yk2 FR
 clear yk2
 by_cases c1:ck=0
 rotate_left
 ·have t1:(ck != 0)=true:=by simpa using c1
  have R:=zH (show r=noS ck by rw [VV.o,if_pos c1])
  clear c1 VV
  go_in
  go_wp2_with (refine lGJ19 BN.o ?_)
  clear yw1 yw2
  refine qM (CK.o _ FR.u) fun w3 hb=>?_
  obtain ⟨FR,BN,BR⟩:=uz3 hb FR BN BR
  clear hb
  go_wp2_with (refine sGJ19 (sN 0 0 0) BR.o ?_;intro w7 BR7 g7)
  refine rG BR7 ?_;exact ⟨by rw [R.o];rfl,(FR.o.away g7 oM).out⟩
 subst c1
 have t1:((0:Int) != 0)=false:=rfl
 cases th with
 | false =>
  have R:=zH (show r=noS 8 by rw [VV.o,if_neg dM,if_pos rfl])
  clear VV
  go_in
  go_wp2_with (refine lGJ19 BN.o ?_)
  clear yw1 yw2
  refine qM (CK.o _ FR.u) fun w3 hb=>?_
  obtain ⟨FR,BN,BR⟩:=uz3 hb FR BN BR
  clear hb
  go_wp2_with (refine lGJ19 BN.o ?_)
  refine qM (TH.o _) fun w4 hb=>?_
  obtain ⟨FR,BN,BR⟩:=uz3 hb FR BN BR
  clear hb
  go_wp2_with (refine sGJ19 (sN 0 0 0) BR.o ?_;intro w7 BR7 g7)
  refine rG BR7 ?_;exact ⟨by rw [R.o];rfl,(FR.o.away g7 oM).out⟩
 | true =>
  obtain ⟨p1,p2,p3,p4⟩:=TB.o rfl
  have hk:=KD.o rfl
  obtain ⟨ia,hia⟩:∃ ia,d.a.toNat=ia:=⟨_,rfl⟩
  obtain ⟨ib,hib⟩:∃ ib,(aU d).toNat=ib:=⟨_,rfl⟩
  obtain ⟨b0,off0,rfl,_,_,k1,k2,k3,_,q1⟩:=HS.o.shape_at ia oM
  obtain ⟨b0',off0',e0,_,_,k4,k5,k6,_,q2⟩:=HS.o.shape_at ib oM
  obtain ⟨rfl,rfl⟩:b0=b0'∧off0=off0':=by simpa using e0
  have V2:=zH (show r=aD (l.getD ia (0,0,0)).1 (l.getD ia (0,0,0)).2.1 (l.getD ia (0,0,0)).2.2 (l.getD ib (0,0,0)).1 (l.getD ib (0,0,0)).2.1 (l.getD ib (0,0,0)).2.2 d by rw [VV.o,if_neg dM,if_neg dM,hia,hib])
  obtain ⟨⟨x,y,z⟩,hx⟩:∃ s,l.getD ia (0,0,0)=s:=⟨_,rfl⟩
  obtain ⟨⟨x',y',z'⟩,hx'⟩:∃ s,l.getD ib (0,0,0)=s:=⟨_,rfl⟩
  rw [hx] at q1 k1 k2 k3 V2
  rw [hx'] at q2 k4 k5 k6 V2
  simp only at q1 q2 k1 k2 k3 k4 k5 k6 V2
  have Q1:=zH q1
  have Q2:=zH q2
  obtain ⟨sc,hsc⟩:∃ s,aU d=s:=⟨_,rfl⟩
  rw [hsc] at p3 p4 OF hib
  have KS:=zH (fun w=>pu x y z x' y' z' d W nw cw B nb cb w k1 k2 k3 HD.o.out HD.o.p HW.o.symm HB.o.symm mw mb hk)
  obtain ⟨⟨⟨x1,x2,x3⟩,xe⟩,hxx⟩:∃ s,aD x y z x' y' z' d=s:=⟨_,rfl⟩
  rw [hxx] at KS V2
  simp only [aL] at KS
  have R:=zH V2.o
  clear VV V2 hx hx' hxx hsc k1 k2 k3 k4 k5 k6 q1 q2 e0 hk KD TB HD
  go_in
  go_wp2_with (refine lGJ19 BN.o ?_)
  clear yw1 yw2
  refine qM (CK.o _ FR.u) fun w3 hb=>?_
  obtain ⟨FR,BN,BR⟩:=uz3 hb FR BN BR
  clear hb
  go_wp2_with (refine lGJ19 BN.o ?_)
  refine qM (TH.o _) fun w4 hb=>?_
  obtain ⟨FR,BN,BR⟩:=uz3 hb FR BN BR
  clear hb
  clear CK TH
  go_wp2_with fail
  refine wp_region_held_drew (S:=fun w'=>w'.cell? ⟨w.heap.size,1,none⟩=some (.int .i64 d.a)∧Blk w' w.heap.size 42 (nD d W nw cw B nb cb)∧Below w w w') kM ?_ (fun hS=>?_)
  ·exact ⟨BN.o.drew.cell 1,BN.o.drew,FR.u.drew⟩
  refine tkH 0 rfl (yP (nD d W nw cw B nb cb) (fun w hs=>hs.2.1)) hS ?_
  try simp only [pX]
  refine kH' 1 hS ?_
  refine kH' 2 hS ?_
  refine kH' 3 hS ?_
  refine kH' 4 hS ?_
  refine tkH 5 rfl (yieldsIf_load_mid (by rfl) 24 (.tmp 23) rfl b0 (off0+ia*3) (by rw [← hia];rfl) _ _ (fun w hs j v hv=>ao hs.2.2 (Q1.o j v hv)) underlying24 rfl kM) hS ?_
  try simp only [pX]
  refine kH' 6 hS ?_
  refine tkH 7 rfl (yP (nD d W nw cw B nb cb) (fun w hs=>hs.2.1)) hS ?_
  try simp only [pX]
  refine rH 8 rfl (fun K hK=>?_)
  go_simp
  refine qM (OF.o _) fun w5 hb=>?_;have BR5:=zH (BR.o.drew.later hb)
  refine xK hK (zR hb hS) fun hS=>?_
  clear hK K
  refine kH' 9 hS ?_
  refine tkH 10 rfl (yieldsIf_load_mid (by rfl) 24 (.tmp 28) rfl b0 (off0+ib*3) (by rw [← hib];rfl) _ _ (fun w hs j v hv=>ao hs.2.2 (Q2.o j v hv)) underlying24 rfl kM) hS ?_
  try simp only [pX]
  refine rH 11 rfl (fun K hK=>?_)
  go_simp
  refine qM (KS.o _) fun w6 hb=>?_;have BR6:=zH (BR5.o.later hb)
  refine xK hK (zR hb hS) fun hS=>?_
  clear hK K
  refine kH' 12 hS ?_
  refine kH' 13 hS ?_
  refine rH 14 rfl (fun K hK=>?_)
  (rw [if_pos (by rfl)];refine oG (sN x1 x2 x3) BR6.o ?_;intro w7 BR7 g7;have BN7:=hS.2.1.away g7 oM;refine hK.out _ _ ⟨BN7.cell 1,BN7,hS.2.2.grown g7 hS.2.2.size (fun k h=>by have:=sI h;omega)⟩ (fun hS=>?_))
  clear hK K
  try simp only [pX]
  refine kH' 15 hS ?_
  refine wpAnyH_done kM ?_ _
  have FZ:=hS.2.2
  go_wp2_with fail
  refine rG BR7 ?_;exact ⟨by rw [R.o];rfl,FZ⟩
structure dx (x:Sh3):Prop where
 h:1≤x.1∧x.1≤1024
 v:1≤x.2.1∧x.2.1≤1024
 c:1≤x.2.2∧x.2.2≤1024
theorem dx.of {h v c:Int} (e:¬ ab h v c=0):dx (h,v,c):=by
 have:=dL e
 exact ⟨by simp only;omega,by simp only;omega,by simp only;omega⟩
theorem gB {h v c k s p o:Int} (e:(aw h v c k s p o).2=0):dx (aw h v c k s p o).1:=by
 unfold aw at *
 by_cases c1:ab h v c=0
 ·rw [if_pos c1] at e;cases e
 rw [if_neg c1] at e ⊢
 by_cases c2:(aG h k s p).2 ≠ 0
 ·rw [if_pos c2] at e;exact absurd e c2
 rw [if_neg c2] at e ⊢
 by_cases c3:(aG v k s p).2 ≠ 0
 ·rw [if_pos c3] at e;exact absurd e c3
 rw [if_neg c3] at e ⊢
 by_cases c4:ab (aG h k s p).1 (aG v k s p).1 o=0
 ·rw [if_pos c4] at e;cases e
 rw [if_neg c4]
 exact .of c4
theorem j7 {x:ShE} {want out:Int} {d:af} (hx:x.2=0 → dx x.1) (e:(fR x want out d).2=0):dx (fR x want out d).1:=by
 unfold fR at *
 by_cases c1:x.2 ≠ 0
 ·rw [if_pos c1] at e;exact absurd e c1
 rw [if_neg c1] at e ⊢
 by_cases c2:¬ (d.w.length:Int)=want ∨ 16384 < d.w.length ∨ ¬ (d.bias.length:Int)=out
 ·rw [if_pos c2] at e;cases e
 rw [if_neg c2] at e ⊢
 exact hx e
theorem nj {h v c:Int} {d:af} (e:(dq h v c d).2=0):dx (dq h v c d).1:=by
 unfold dq at *
 by_cases c1:ab h v c=0 ∨ ab 1 1 d.out=0
 ·rw [if_pos c1] at e;cases e
 rw [if_neg c1] at e ⊢
 by_cases c2:¬ (d.w.length:Int)=d.out*ab h v c ∨ 16384 < d.w.length ∨ ¬ (d.bias.length:Int)=d.out
 ·rw [if_pos c2] at e;cases e
 rw [if_neg c2]
 exact .of (fun h=>c1 (.inr h))
theorem lF {h v c p:Int} (e:(cI h v c p).2=0):dx (cI h v c p).1:=by
 unfold cI at *
 by_cases c1:p < 0 ∨ 4 < p
 ·rw [if_pos c1] at e;cases e
 rw [if_neg c1] at e ⊢
 by_cases c2:ab (h+2*p) (v+2*p) c=0
 ·rw [if_pos c2] at e;cases e
 rw [if_neg c2]
 exact .of c2
theorem nS {k h v c h2 v2 c2 p:Int} (e:(bJ k h v c h2 v2 c2 p).2=0):dx (bJ k h v c h2 v2 c2 p).1:=by
 unfold bJ at *
 by_cases c1:ab h v c=0
 ·rw [if_pos c1] at e;cases e
 rw [if_neg c1] at e ⊢
 by_cases q:k=6∧([h,v,c] == [h2,v2,c2])=false
 ·rw [if_pos q] at e;cases e
 rw [if_neg q] at e ⊢
 by_cases k8:k=8
 ·rw [if_pos k8] at e ⊢;exact lF e
 rw [if_neg k8] at e ⊢
 by_cases k9:k=9
 ·rw [if_pos k9]
  have:=aC h v c
  exact ⟨by simp only;omega,by simp only;omega,by simp only;omega⟩
 rw [if_neg k9]
 exact .of c1
theorem oD {h v c h2 v2 c2:Int} {d:af} (e:(aD h v c h2 v2 c2 d).2=0):dx (aD h v c h2 v2 c2 d).1:=by
 unfold aD at *
 by_cases k1:d.kind=1
 ·rw [if_pos k1] at e ⊢;exact j7 gB e
 rw [if_neg k1] at e ⊢
 by_cases k2:d.kind=2
 ·rw [if_pos k2] at e ⊢;exact j7 gB e
 rw [if_neg k2] at e ⊢
 by_cases k3:d.kind=3
 ·rw [if_pos k3] at e ⊢;exact nj e
 rw [if_neg k3] at e ⊢
 by_cases k4:d.kind=4 ∨ d.kind=5
 ·rw [if_pos k4] at e ⊢;exact gB e
 rw [if_neg k4] at e ⊢
 exact nS e
theorem jw {d:af} {l:List Sh3} (e:(bs d l).2=0):dx (bs d l).1:=by
 unfold bs at *
 by_cases c1:bu d ≠ 0
 ·rw [if_pos c1] at e;exact absurd e c1
 rw [if_neg c1] at e ⊢
 by_cases c2:bm d l.length=false
 ·rw [if_pos c2] at e;cases e
 rw [if_neg c2] at e ⊢
 exact oD e
theorem dx.rep {w:World} {S:Nat → Prop} {x y z:Int} (h:dx (x,y,z)):dC.rep w S [.int .i64 x,.int .i64 y,.int .i64 z] (x,y,z):=by
 have h1:=h.h
 have h2:=h.v
 have h3:=h.c
 simp only at h1 h2 h3
 exact ⟨_,_,rfl,⟨rfl,by rw [ah];simp only;omega⟩,_,_,rfl,⟨rfl,by rw [ah];simp only;omega⟩,rfl,by rw [ah];simp only;omega⟩
inductive Run where
 | on (out:List Sh3)
 | bad (i:Nat) (e:Int)
def bi:af:=⟨0,0,0,0,0,0,0,0,0,[],[],0,0,0,0,0,0,0,0⟩
def cf (l:List af) (s:Sh3):Nat → Run
 | 0=>.on [s]
 | k+1=>match cf l s k with
  | .on out=>if (bs (l.getD k bi) out).2 ≠ 0 then .bad k (bs (l.getD k bi) out).2 else .on (out ++ [(bs (l.getD k bi) out).1])
  | .bad i e=>.bad i e
def lS (n:Nat):Run → List Sh3 × Int × Int
 | .on out=>(out,(n:Int),0)
 | .bad i e=>([],(i:Int),e)
def bh (l:List af) (s:Sh3):List Sh3 × Int × Int :=
 if ab s.1 s.2.1 s.2.2=0 then ([],-1,5) else if l.length=0 then ([],-1,12) else if 8 < l.length then ([],-1,4)
 else lS l.length (cf l s l.length)
theorem gS {l : List af} {s : Sh3} {k i : Nat} {e : Int} (h : cf l s k = .bad i e) : ∀ m, k ≤ m → cf l s m = .bad i e := by
  intro m hm
  induction m with
  | zero => obtain rfl : k = 0 := by omega
            exact h
  | succ m ih =>
    by_cases hk : k = m + 1
    · subst hk; exact h
    · have := ih oM
      show (match cf l s m with | .on out => _ | .bad i e => _) = _
      rw [this]
theorem kw {l:List af} {s:Sh3} {k:Nat} {out:List Sh3} {d:af} (h:cf l s k=.on out) (hd:l[k]?=some d) :
  cf l s (k+1)=if (bs d out).2 ≠ 0 then .bad k (bs d out).2 else .on (out ++ [(bs d out).1]):=by
 have e:l.getD k bi=d:=by rw [gD,hd];rfl
 show (match cf l s k with|.on out=>_|.bad i e=>_)=_
 rw [h]
 simp only [e]
theorem qh:ee.size=19:=rfl
theorem Sl.node_at {w:World} {S:Nat → Prop} {A:QA} {n cap:Nat} {l:List af} (h:Sl ee w S A n cap l) (i:Nat) (hi:i < n) :
  ∃ d b off W nw cw B nb cb,l[i]?=some d∧A=some ⟨b,off,none⟩∧S b∧b < w.heap.size∧aE d∧Sl (aa .i8) w S W nw cw d.w∧Sl (aa .i32) w S B nb cb d.bias∧w.rangeAt b (off+i*19) [.int .i64 d.kind,.int .i64 d.a,.int .i64 d.b,.int .i64 d.k,.int .i64 d.s,.int .i64 d.p,.int .i64 d.out,.int .i8 d.za,.int .i8 d.zb,.slice W nw cw,.slice B nb cb,.int .i32 d.qm,.int .i64 d.qs,.int .i8 d.qz,.int .i32 d.rm,.int .i64 d.rs,.int .i8 d.rz,.int .i8 d.lo,.int .i8 d.hi]:=by
 obtain ⟨d,b,off,xs,hx,hA,hS,hb,hr,hl,hc⟩:=h.cells i hi dM
 obtain ⟨W,nw,cw,B,nb,cb,rfl,hd,h1,h2⟩:=qX hr
 rw [qh] at hc
 exact ⟨d,b,off,W,nw,cw,B,nb,cb,hx,hA,hS,hb,hd,h1,h2,fun j v hv=>by have:=hc j v hv;rwa [← Nat.add_assoc] at this⟩
theorem eV:EI prog 43 24 (.agg (sN 0 0 0)) 3 24:=⟨underlying43,by kernel_rfl,rfl,by decide⟩
theorem Own.one {α:Type} {t:Ty α} {W:World} {S:Nat → Prop} {E:TypeId} {base:Nat} {cs:Array Value} {x:α} (hb:base≤W.heap.size) (hr:t.rep (W.alloc (.cells cs E)) S cs.toList x) :
  Own t (W.alloc (.cells cs E)) S base E (.slice (some ⟨W.heap.size,0,none⟩) 1 1) 1 [x] :=
 have hl:=t.len hr
 ⟨cs.toList,⟨by simp [hl],.inr ⟨_,1,cs,rfl,hb,heap_alloc_new _ _,lR _,by decide,by simpa using hl,by rw [List.take_of_length_le oM]⟩⟩,RowsOf.one hr⟩
def bP (x:List Sh3 × Int × Int) (w:World) (e:Ending) (w':World):Prop :=
 ∃ A m cap,e=.returned (.tuple #[.slice A m cap,.int .i64 x.2.1,.int .i64 x.2.2])∧Sl dC w' (bin w w') A m cap x.1∧Below w w w'
theorem bP.none {i e:Int} {w w':World} (hb:Below w w w'):bP ([],i,e) w (.returned (.tuple #[.slice none 0 0,.int .i64 i,.int .i64 e])) w' :=
 ⟨Option.none,0,0,rfl,Sl.nil _ _ _,hb⟩
theorem p9 (A:QA) (n cap:Nat) (l:List af) (h v c:Int) (w:World) (hs:Sl ee w (blo w) A n cap l) (i0:InK .i64 h) (i1:InK .i64 v) (i2:InK .i64 c) (hf:∀ d ∈ l,d.w.length≤1000∧d.bias.length≤100) :
  Calls prog 19 #[.slice A n cap,.agg (sN h v c)] w (bP (bh l (h,v,c)) w):=by
 have hn:=hs.n_eq
 obtain ⟨r,hr⟩:∃ r,bh l (h,v,c)=r:=⟨_,rfl⟩
 rw [hr]
 unfold bh at hr
 simp only [hn] at hr
 have RI:=zH (fun w=>aP h c v w i0 i1 i2)
 have m0:=(aC h v c).1
 have GS:=zH (dx.of (h:=h) (v:=v) (c:=c))
 obtain ⟨m,hm⟩:∃ m,ab h v c=m:=⟨_,rfl⟩
 rw [hm] at hr RI m0 GS
 have VV:=zH hr.symm
 have H:=zH hs
 have HF:=zH hf
 have hmax:n≤9223372036854775807:=lT hs.cap_le hs.max_le
 clear hr hm hs hf i0 i1 i2 hn
 have FR:=zW w
 obtain ⟨w1,yw1,BA,FR⟩:=nF FR (sN h v c) 24
 have l1:=zL yw1
 by_cases c1:m=0
 ·have t1:decide (0 < m)=false:=by simp;omega
  have R:=zH (show r=([],-1,5) by rw [VV.o,if_pos c1])
  clear c1 VV
  go_in
  go_wp2_with (refine lGJ19 BA.o ?_)
  clear yw1
  refine qM (RI.o _) fun w2 hb=>?_
  obtain ⟨FR,BA⟩:=uz2 hb FR BA
  clear hb
  go_wp2
  go_ret3
  rw [R.o]
  exact bP.none FR.u
 have t1:decide (0 < m)=true:=by simp;omega
 have good:=zH (GS.o c1)
 by_cases c2:n=0
 ·have t2:((n:Int) == 0)=true:=by simp;omega
  have R:=zH (show r=([],-1,12) by rw [VV.o,if_neg c1,if_pos c2])
  clear c1 c2 VV
  go_in
  go_wp2_with (refine lGJ19 BA.o ?_)
  clear yw1
  refine qM (RI.o _) fun w2 hb=>?_
  obtain ⟨FR,BA⟩:=uz2 hb FR BA
  clear hb
  go_wp2
  go_ret3
  rw [R.o]
  exact bP.none FR.u
 have t2:((n:Int) == 0)=false:=by simp;omega
 by_cases c3:8 < n
 ·have t3:decide (8 < (n:Int))=true:=by simp;omega
  have R:=zH (show r=([],-1,4) by rw [VV.o,if_neg c1,if_neg c2,if_pos c3])
  clear c1 c2 c3 VV
  go_in
  go_wp2_with (refine lGJ19 BA.o ?_)
  clear yw1
  refine qM (RI.o _) fun w2 hb=>?_
  obtain ⟨FR,BA⟩:=uz2 hb FR BA
  clear hb
  go_wp2
  go_ret3
  rw [R.o]
  exact bP.none FR.u
 have t3:decide (8 < (n:Int))=false:=by simp;omega
 have hn8:n≤8:=oM
 have V2:=zH (show r=lS n (cf l (h,v,c) n) by rw [VV.o,if_neg c1,if_neg c2,if_neg c3])
 clear c1 c2 c3 VV GS
 go_in
 go_wp2_with (refine lGJ19 BA.o ?_)
 clear yw1
 refine qM (RI.o _) fun w2 hb=>?_
 obtain ⟨FR,BA⟩:=uz2 hb FR BA
 clear hb
 clear RI
 go_wp2_with (first
  | (refine lGJ19 BA.o ?_)
  | (refine di rfl (.tmp 24) rfl eV (sN h v c) rfl rfl dM ?_))
 have z2:=FR.o.size
 go_loopw [7,28] (fun u i wr=>∃ (k:Nat) (out:List Sh3),k≤n∧i=.int .i64 k∧cf l (h,v,c) k=.on out∧Own dC wr (fun _=>False) w.heap.size 24 u (k+1) out∧Below w w wr) (fun _ i _=>n - (intOf i).toNat)
 case atStart=>exact ⟨0,[(h,v,c)],zl _,rfl,rfl,Own.one z2 good.out.rep,FR.u.alloc z2 _⟩
 case round =>
  clear FR BA z2 t1 t2 t3
  obtain ⟨k,out,hk,rfl,hrun,hown,hb⟩:=hrel
  have HB:=zH hb
  have ON:=zH hown
  have HR:=zH hrun
  obtain ⟨A1,c1,rfl,sl⟩:=hown.sl (S':=bin w wr) dM (fun b h1 h2=>⟨h1,h2⟩) (fun _ h=>h.elim)
  have SL:=zH sl
  clear hb hown hrun sl
  by_cases hlt:k < n
  ·have p1:(k:Int) < (n:Int):=oM
   obtain ⟨d,b0,off,W,nw,cw,B,nb,cb,hd,rfl,_,_,hin,hw8,hw32,hrg⟩:=(H.o.below HB.o (fun _ h=>h)).node_at k hlt
   have hsz:=HF.o d (mG hd)
   have hnx:=kw HR.o hd
   have q8:=hw8.n_eq
   have q32:=hw32.n_eq
   have RG:=zH hrg
   have HIN:=zH hin
   have HW:=zH (hw8.more (dJ HB.o.size))
   have HW32:=zH (hw32.more (dJ HB.o.size))
   have NG:=zH (jw (d:=d) (l:=out))
   obtain ⟨⟨⟨x1,x2,x3⟩,xe⟩,hx⟩:∃ x,bs d out=x:=⟨_,rfl⟩
   rw [hx] at hnx NG
   simp only at hnx
   have NX:=zH hnx
   have HX:=zH hx
   clear hd hin hw8 hw32 hrg hnx hx
   have zr:=HB.o.size
   go_wp2_with (first
    | (refine wpList_load_mid rfl 42 (.tmp 31) rfl b0 (off+k*19) rfl _ _ RG.o underlying42 rfl kM ?_)
    | (refine sGJ19 (nD d W nw cw B nb cb) (Blk.now _ _ _ _ rfl) ?_;intro w7 B7 g7;have G7:=zH (show Below wr wr w7 from ((qB _ _).alloc (lR _) _).grown g7 sM (fun k h=>by have:=sI h;omega));have BD:=zH B7;clear B7 g7)
    | (refine lGJ19 BD.o ?_))
   have z7:=G7.o.size
   refine (sC d W nw cw B nb cb A1 (k+1) c1 out w7 HIN.o (HW.o.later G7.o (lR _)) (HW32.o.later G7.o (lR _)) oM oM ((SL.o.more oJ).later G7.o (lR _))).mono ?_
   rintro e w8 ⟨he,hb⟩
   rw [HX.o] at he
   simp only [aL] at he
   subst he
   have G8:=zH (ag hb G7.o)
   have O8:=zH ((ON.o.below G7.o (lR _) (fun _ h=>h.elim)).below hb (lR _) (fun _ h=>h.elim))
   have z8:=hb.size
   clear hb HX
   by_cases hxe:xe=0
   ·subst hxe
    have t4:((0:Int) != 0)=false:=rfl
    have gx:=zH (NG.o rfl)
    rw [if_neg dM] at NX
    clear NG
    go_wp2_with (first
     | (refine sGJ19 (sN x1 x2 x3) (Blk.now _ _ _ _ rfl) ?_;intro w9 B9 g9;have G9:=zH (show Below w8 w8 w9 from ((qB _ _).alloc (lR _) _).grown g9 sM (fun k h=>by have:=sI h;omega));have BX:=zH B9;clear B9 g9)
     | (refine lGJ19 BX.o ?_)
     | (refine di rfl (.tmp 44) rfl eV (sN x1 x2 x3) rfl rfl dM ?_)
     | (at_builtin;refine wpList_push (W:=w9) (cs:=(sN x1 x2 x3)) (E:=24) (t:=dC) (S:=fun _=>False) (base:=w.heap.size) rfl (.tmp 43) (.tmp 45) rfl eV rfl (O8.o.below G9.o (lR _) (fun _ h=>h.elim)) 1 rfl (x1,x2,x3) gx.out.rep (by unfold maxLen;omega) oM (by have:=G9.o.size;omega) (fun _ h=>h.elim) ?_;intro v' wz ownz gz atz))
    have bz:=(ag G9.o (ag G8.o HB.o)).grown gz (by have:=G9.o.size;omega) (fun j hj=>(O8.o.lt j hj).1)
    exact ⟨⟨k+1,out ++ [(x1,x2,x3)],by omega,by go_num,NX.o,ownz,bz⟩,by simp [intOf];omega⟩
   ·have t4:(xe != 0)=true:=by simpa using hxe
    rw [if_pos hxe] at NX
    have R:=zH (show r=([],(k:Int),xe) by rw [V2.o,gS NX.o n oM];rfl)
    clear hxe NG NX V2
    go_wp2_with (refine sGJ19 (sN x1 x2 x3) (Blk.now _ _ _ _ rfl) ?_;intro w9 B9 g9;have G9:=zH (show Below w8 w8 w9 from ((qB _ _).alloc (lR _) _).grown g9 sM (fun k h=>by have:=sI h;omega));clear B9 g9)
    go_ret3
    rw [R.o]
    exact bP.none (ag G9.o (ag G8.o HB.o))
  ·obtain rfl:k=n:=oM
   have R:=zH (show r=(out,(k:Int),0) by rw [V2.o,HR.o];rfl)
   clear hlt hk V2
   go_wp2
   go_ret3
   rw [R.o]
   exact ⟨A1,_,c1,rfl,SL.o,HB.o⟩
theorem pD {t:ae} (h:t.ok=true):ak t:=by
 unfold ae.ok at h
 have h:=of_decide_eq_true h
 have g:=dx.of (h:=t.h) (v:=t.v) (c:=t.c) oM
 have h1:=g.h
 have h2:=g.v
 have h3:=g.c
 simp only at h1 h2 h3
 exact ⟨by rw [ah];omega,by rw [ah];omega,by rw [ah];omega⟩
theorem mU (t:ae) (A:QA) (n cap:Nat) (w:World) (hok:t.ok=true) (ha:xA w A n cap t.data) (hn:n≤140737488351232) :
  Calls prog 14 #[.agg (sN t.h t.v t.c),.slice A n cap] w (ar .i8 t 0 w):=by
 have ht:=pD hok
 have RA:=zH (fun w=>av t.h t.v t.c A n cap w ht.h ht.v ht.c (lT ha.cap_le ha.max_le))
 have c1':decide (0 < ab t.h t.v t.c∧ab t.h t.v t.c=n)=true:=by rw [← ha.n_eq];exact hok
 rw [c1'] at RA
 have HA:=zH (Old.now ha)
 have FR:=zW w
 obtain ⟨w1,w2,yw1,yw2,l1,l2,BA,BR,yk2⟩:=bk2 w (sN t.h t.v t.c) 24 (tN 0 0 0 none 0 0) 27
 obtain ⟨FR,HA⟩:=uz2 yk2 FR HA
 clear yk2
 clear ha hok ht c1'
 go_in
 go_wp2_with (refine lGJ19 BA.o ?_)
 clear yw1 yw2
 refine qM (RA.o _) fun w3 hb=>?_
 obtain ⟨FR,HA,BA,BR⟩:=uz4 hb FR HA BA BR
 clear hb
 go_wp2_with fail
 refine wp_region_held_drew (S:=fun w'=>Blk w' w.heap.size 24 (sN t.h t.v t.c)∧Below w w w') kM ?_ (fun hS=>?_)
 ·exact ⟨BA.o.drew,FR.u.drew⟩
 refine tkH 0 rfl (yP (sN t.h t.v t.c) (fun w hs=>hs.1)) hS ?_
 try simp only [pX]
 refine kH' 1 hS ?_
 refine rH 2 rfl (fun K hK=>?_)
 go_simp
 refine (eF A n cap t.data _ (HA.o.draw.all) hn).mono ?_;rintro e w4 ⟨D,m,c,rfl,hs,hb⟩;have SD:=zH (New.of hs ((Far.refl w3).draw));have BR4:=zH (BR.o.drew.later hb);clear hs
 refine xK hK (zR hb hS) fun hS=>?_
 clear hK K
 refine kH' 3 hS ?_
 refine rH 4 rfl (fun K hK=>?_)
 (rw [if_pos (by rfl)];refine oG (tN t.h t.v t.c D m c) BR4.o ?_;intro w7 BR7 g7;have lq:=BR.o.lt;have SD7:=zH (SD.o.away g7 lq);have BA7:=hS.1.away g7 oM;refine hK.out _ _ ⟨BA7,hS.2.grown g7 hS.2.size (fun k h=>by have:=sI h;omega)⟩ (fun hS=>?_))
 clear hK K
 try simp only [pX]
 refine kH' 5 hS ?_
 refine wpAnyH_done kM ?_ _
 have FZ:=hS.2
 go_wp2_with fail
 refine rG BR7 ?_;exact ⟨D,m,c,rfl,SD7.o.since FR.o,FZ⟩
end Go.Proofs.YtmihnoagagbgaaaGreat
namespace Go.Proofs.YtmihnoagagbgaaaGreat
open Tryz
theorem nL {d:af} {l:List Sh3} (e:(bs d l).2=0):bm d l.length=true:=by
 unfold bs at e
 by_cases c1:bu d ≠ 0
 ·rw [if_pos c1] at e;exact absurd e c1
 rw [if_neg c1] at e
 by_cases c2:bm d l.length=false
 ·rw [if_pos c2] at e;cases e
 simpa using c2
structure uf (l:List af) (k:Nat) (out:List Sh3):Prop where
 len:out.length=k+1
 there:∀ i,i < k → bm (l.getD i bi) ((i:Int)+1)=true
theorem tu {l:List af} {s:Sh3} (k:Nat):∀ {out:List Sh3},cf l s k=.on out → uf l k out:=by
 induction k with
 | zero=>intro out h;cases h;exact ⟨rfl,fun i hi=>absurd hi (Nat.not_lt_zero _)⟩
 | succ k ih =>
  intro out h
  unfold cf at h
  cases hr:cf l s k with
  | bad i e=>rw [hr] at h;cases h
  | on o =>
   rw [hr] at h
   have hk:=ih hr
   simp only at h
   by_cases c:(bs (l.getD k bi) o).2=0
   ·rw [if_neg (by simpa using c)] at h
    cases h
    have ht:=nL c
    refine ⟨by simp [hk.len],fun i hi=>?_⟩
    by_cases hik:i < k
    ·exact hk.there i hik
    ·obtain rfl:i=k:=oM
     rw [hk.len] at ht
     simpa using ht
   ·rw [if_pos c] at h;cases h
theorem uz {l:List af} {s:Sh3} (k:Nat):∀ {i:Nat} {e:Int},cf l s k=.bad i e → e ≠ 0:=by
 induction k with
 | zero=>intro i e h;cases h
 | succ k ih =>
  intro i e h
  unfold cf at h
  cases hr:cf l s k with
  | bad i' e'=>rw [hr] at h;cases h;exact ih hr
  | on o =>
   rw [hr] at h
   simp only at h
   by_cases c:(bs (l.getD k bi) o).2=0
   ·rw [if_neg (by simpa using c)] at h;cases h
   ·rw [if_pos c] at h;cases h;exact c
structure dI (l:List af) (s:Sh3) (sl:List Sh3) (p:Int):Prop where
 len:sl.length=l.length+1
 at_:p=(l.length:Int)
 few:l.length≤8
 there:∀ i,i < l.length → bm (l.getD i bi) ((i:Int)+1)=true
theorem p8 {l:List af} {s:Sh3} {sl:List Sh3} {p:Int} (h:bh l s=(sl,p,0)):dI l s sl p:=by
 unfold bh at h
 by_cases c1:ab s.1 s.2.1 s.2.2=0
 ·rw [if_pos c1] at h;simp at h
 rw [if_neg c1] at h
 by_cases c2:l.length=0
 ·rw [if_pos c2] at h;simp at h
 rw [if_neg c2] at h
 by_cases c3:8 < l.length
 ·rw [if_pos c3] at h;simp at h
 rw [if_neg c3] at h
 cases hr:cf l s l.length with
 | on out =>
  rw [hr] at h
  simp only [lS,Prod.mk.injEq] at h
  obtain ⟨rfl,rfl,_⟩:=h
  have:=tu _ hr
  exact ⟨this.len,rfl,by omega,this.there⟩
 | bad i e =>
  rw [hr] at h
  simp only [lS,Prod.mk.injEq] at h
  exact absurd h.2.2 (uz _ hr)
end Go.Proofs.YtmihnoagagbgaaaGreat
