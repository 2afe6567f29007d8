/-
  What a node tells that its kind does not (layer 25): the document's More.
-/
import Derived.Test.YtmihnoagagbgaaaGreatJ15
set_option linter.unusedVariables false
set_option linter.unusedSimpArgs false
set_option maxRecDepth 100000
set_option maxHeartbeats 16000000
namespace Go.Proofs.YtmihnoagagbgaaaGreat
open Go.RowKit Go.ChangeShapes Go.WideShapes Tryz
set_option maxRecDepth 100000
set_option maxHeartbeats 16000000
def bS (k:Int):Bool:=decide (k=1 ∨ k=2 ∨ k=4 ∨ k=5)
def aW (d:af):Prop :=
 (bY d.kind=false∧(0 < d.w.length ∨ 0 < d.bias.length)) ∨ (d.kind ≠ 1∧d.kind ≠ 3∧d.out ≠ 0) ∨ (bS d.kind=false∧(d.k ≠ 0 ∨ d.s ≠ 0)) ∨ (bS d.kind=false∧d.kind ≠ 8∧d.p ≠ 0)
  ∨ (d.kind ≠ 6∧(d.b ≠ 0 ∨ d.zb ≠ 0 ∨ d.rm ≠ 0 ∨ d.rs ≠ 0)) ∨ d.rz ≠ 0 ∨ (aA d.kind=false∧(d.qm ≠ 0 ∨ d.qs ≠ 0 ∨ d.qz ≠ 0 ∨ d.lo ≠ 0 ∨ d.hi ≠ 0)) ∨ (aA d.kind=false∧d.kind ≠ 8∧d.za ≠ 0)
instance (d:af):Decidable (aW d):=inferInstanceAs (Decidable (_ ∨ _))
theorem tO (d:af) (W:QA) (nw cw:Nat) (B:QA) (nb cb:Nat) (w:World) (hk:d.kind=1) (hnw:nw=d.w.length) (hnb:nb=d.bias.length) (mw:nw≤maxLen) (mb:nb≤maxLen) :
  Calls prog 53 #[.agg (nN d.kind d.a d.b d.k d.s d.p d.out d.za d.zb W nw cw B nb cb d.qm d.qs d.qz d.rm d.rs d.rz d.lo d.hi)] w fun e w'=>e=.returned (.bool (decide (aW d)))∧Below w w w':=by
 obtain ⟨r,hr⟩:∃ r,decide (aW d)=r:=⟨_,rfl⟩
 rw [hr]
 have X:decide ((d.b ≠ 0 ∨ d.zb ≠ 0 ∨ d.rm ≠ 0 ∨ d.rs ≠ 0) ∨ d.rz ≠ 0)=r:=by
  rw [← hr]
  refine decide_eq_decide.2 ?_
  unfold aW
  rw [hk,← hnw,← hnb]
  simp [bY,bS,aA]
 have R:=zH X
 clear hr X hnw hnb
 unfold maxLen at mw mb
 have FR:=zW w
 rw [hk]
 have SC:=zH (fun w=>bZ 1 w)
 rw [show aA 1=true from rfl] at SC
 clear hk
 obtain ⟨kind,a,b,k,s,p,out,za,zb,wl,bl,qm,qs,qz,rm,rs,rz,lo,hi⟩:=d
 simp only at R ⊢
 obtain ⟨w1,yw1,BN,FR⟩:=nF FR (nN 1 a b k s p out za zb W nw cw B nb cb qm qs qz rm rs rz lo hi) 42
 obtain ⟨c0,c2,c3,c4,c5,c6,c7,c8,c9⟩:=uc9 BN 0 2 3 4 5 6 7 8 9
 obtain ⟨c10,c11,c12,c13,c14,c15,c16,c17,c18⟩:=uc9 BN 10 11 12 13 14 15 16 17 18
 go_in
 go_wp2_with (go_at_call 54;refine (SC.o _).mono ?_;rintro e w' ⟨rfl,rfl⟩)
 all_goals clear c0 c2 c3 c4 c5 c6 c7 c8 c9 c10 c11 c12 c13 c14 c15 c16 c17 c18 SC
 all_goals go_ret
 all_goals exact ⟨au (by rw [← R.o];clear FR R;(try simp only [bne_iff_ne,bne_eq_false_iff_eq] at *);first|exact (qT oM).symm|exact (dF oM).symm|(rw [Bool.eq_iff_iff,bne_iff_ne,decide_eq_true_iff];omega)),FR.u⟩
theorem tP (d:af) (W:QA) (nw cw:Nat) (B:QA) (nb cb:Nat) (w:World) (hk:d.kind=2) (hnw:nw=d.w.length) (hnb:nb=d.bias.length) (mw:nw≤maxLen) (mb:nb≤maxLen) :
  Calls prog 53 #[.agg (nN d.kind d.a d.b d.k d.s d.p d.out d.za d.zb W nw cw B nb cb d.qm d.qs d.qz d.rm d.rs d.rz d.lo d.hi)] w fun e w'=>e=.returned (.bool (decide (aW d)))∧Below w w w':=by
 obtain ⟨r,hr⟩:∃ r,decide (aW d)=r:=⟨_,rfl⟩
 rw [hr]
 have X:decide (d.out ≠ 0 ∨ (d.b ≠ 0 ∨ d.zb ≠ 0 ∨ d.rm ≠ 0 ∨ d.rs ≠ 0) ∨ d.rz ≠ 0)=r:=by
  rw [← hr]
  refine decide_eq_decide.2 ?_
  unfold aW
  rw [hk,← hnw,← hnb]
  simp [bY,bS,aA]
 have R:=zH X
 clear hr X hnw hnb
 unfold maxLen at mw mb
 have FR:=zW w
 rw [hk]
 have SC:=zH (fun w=>bZ 2 w)
 rw [show aA 2=true from rfl] at SC
 clear hk
 obtain ⟨kind,a,b,k,s,p,out,za,zb,wl,bl,qm,qs,qz,rm,rs,rz,lo,hi⟩:=d
 simp only at R ⊢
 obtain ⟨w1,yw1,BN,FR⟩:=nF FR (nN 2 a b k s p out za zb W nw cw B nb cb qm qs qz rm rs rz lo hi) 42
 obtain ⟨c0,c2,c3,c4,c5,c6,c7,c8,c9⟩:=uc9 BN 0 2 3 4 5 6 7 8 9
 obtain ⟨c10,c11,c12,c13,c14,c15,c16,c17,c18⟩:=uc9 BN 10 11 12 13 14 15 16 17 18
 go_in
 go_wp2_with (go_at_call 54;refine (SC.o _).mono ?_;rintro e w' ⟨rfl,rfl⟩)
 all_goals clear c0 c2 c3 c4 c5 c6 c7 c8 c9 c10 c11 c12 c13 c14 c15 c16 c17 c18 SC
 all_goals go_ret
 all_goals exact ⟨au (by rw [← R.o];clear FR R;(try simp only [bne_iff_ne,bne_eq_false_iff_eq] at *);first|exact (qT oM).symm|exact (dF oM).symm|(rw [Bool.eq_iff_iff,bne_iff_ne,decide_eq_true_iff];omega)),FR.u⟩
theorem tQ (d:af) (W:QA) (nw cw:Nat) (B:QA) (nb cb:Nat) (w:World) (hk:d.kind=3) (hnw:nw=d.w.length) (hnb:nb=d.bias.length) (mw:nw≤maxLen) (mb:nb≤maxLen) :
  Calls prog 53 #[.agg (nN d.kind d.a d.b d.k d.s d.p d.out d.za d.zb W nw cw B nb cb d.qm d.qs d.qz d.rm d.rs d.rz d.lo d.hi)] w fun e w'=>e=.returned (.bool (decide (aW d)))∧Below w w w':=by
 obtain ⟨r,hr⟩:∃ r,decide (aW d)=r:=⟨_,rfl⟩
 rw [hr]
 have X:decide ((d.k ≠ 0 ∨ d.s ≠ 0) ∨ d.p ≠ 0 ∨ (d.b ≠ 0 ∨ d.zb ≠ 0 ∨ d.rm ≠ 0 ∨ d.rs ≠ 0) ∨ d.rz ≠ 0)=r:=by
  rw [← hr]
  refine decide_eq_decide.2 ?_
  unfold aW
  rw [hk,← hnw,← hnb]
  simp [bY,bS,aA]
 have R:=zH X
 clear hr X hnw hnb
 unfold maxLen at mw mb
 have FR:=zW w
 rw [hk]
 have SC:=zH (fun w=>bZ 3 w)
 rw [show aA 3=true from rfl] at SC
 clear hk
 obtain ⟨kind,a,b,k,s,p,out,za,zb,wl,bl,qm,qs,qz,rm,rs,rz,lo,hi⟩:=d
 simp only at R ⊢
 obtain ⟨w1,yw1,BN,FR⟩:=nF FR (nN 3 a b k s p out za zb W nw cw B nb cb qm qs qz rm rs rz lo hi) 42
 obtain ⟨c0,c2,c3,c4,c5,c6,c7,c8,c9⟩:=uc9 BN 0 2 3 4 5 6 7 8 9
 obtain ⟨c10,c11,c12,c13,c14,c15,c16,c17,c18⟩:=uc9 BN 10 11 12 13 14 15 16 17 18
 go_in
 go_wp2_with (go_at_call 54;refine (SC.o _).mono ?_;rintro e w' ⟨rfl,rfl⟩)
 all_goals clear c0 c2 c3 c4 c5 c6 c7 c8 c9 c10 c11 c12 c13 c14 c15 c16 c17 c18 SC
 all_goals go_ret
 all_goals exact ⟨au (by rw [← R.o];clear FR R;(try simp only [bne_iff_ne,bne_eq_false_iff_eq] at *);first|exact (qT oM).symm|exact (dF oM).symm|(rw [Bool.eq_iff_iff,bne_iff_ne,decide_eq_true_iff];omega)),FR.u⟩
theorem tR (d:af) (W:QA) (nw cw:Nat) (B:QA) (nb cb:Nat) (w:World) (hk:d.kind=4) (hnw:nw=d.w.length) (hnb:nb=d.bias.length) (mw:nw≤maxLen) (mb:nb≤maxLen) :
  Calls prog 53 #[.agg (nN d.kind d.a d.b d.k d.s d.p d.out d.za d.zb W nw cw B nb cb d.qm d.qs d.qz d.rm d.rs d.rz d.lo d.hi)] w fun e w'=>e=.returned (.bool (decide (aW d)))∧Below w w w':=by
 obtain ⟨r,hr⟩:∃ r,decide (aW d)=r:=⟨_,rfl⟩
 rw [hr]
 have X:decide ((0 < nw ∨ 0 < nb) ∨ d.out ≠ 0 ∨ (d.b ≠ 0 ∨ d.zb ≠ 0 ∨ d.rm ≠ 0 ∨ d.rs ≠ 0) ∨ d.rz ≠ 0 ∨ (d.qm ≠ 0 ∨ d.qs ≠ 0 ∨ d.qz ≠ 0 ∨ d.lo ≠ 0 ∨ d.hi ≠ 0) ∨ d.za ≠ 0)=r:=by
  rw [← hr]
  refine decide_eq_decide.2 ?_
  unfold aW
  rw [hk,← hnw,← hnb]
  simp [bY,bS,aA]
 have R:=zH X
 clear hr X hnw hnb
 unfold maxLen at mw mb
 have FR:=zW w
 rw [hk]
 have SC:=zH (fun w=>bZ 4 w)
 rw [show aA 4=false from rfl] at SC
 clear hk
 obtain ⟨kind,a,b,k,s,p,out,za,zb,wl,bl,qm,qs,qz,rm,rs,rz,lo,hi⟩:=d
 simp only at R ⊢
 obtain ⟨w1,yw1,BN,FR⟩:=nF FR (nN 4 a b k s p out za zb W nw cw B nb cb qm qs qz rm rs rz lo hi) 42
 obtain ⟨c0,c2,c3,c4,c5,c6,c7,c8,c9⟩:=uc9 BN 0 2 3 4 5 6 7 8 9
 obtain ⟨c10,c11,c12,c13,c14,c15,c16,c17,c18⟩:=uc9 BN 10 11 12 13 14 15 16 17 18
 go_in
 go_wp2_with (go_at_call 54;refine (SC.o _).mono ?_;rintro e w' ⟨rfl,rfl⟩)
 all_goals clear c0 c2 c3 c4 c5 c6 c7 c8 c9 c10 c11 c12 c13 c14 c15 c16 c17 c18 SC
 all_goals go_ret
 all_goals exact ⟨au (by rw [← R.o];clear FR R;(try simp only [bne_iff_ne,bne_eq_false_iff_eq] at *);first|exact (qT oM).symm|exact (dF oM).symm|(rw [Bool.eq_iff_iff,bne_iff_ne,decide_eq_true_iff];omega)),FR.u⟩
theorem tS (d:af) (W:QA) (nw cw:Nat) (B:QA) (nb cb:Nat) (w:World) (hk:d.kind=5) (hnw:nw=d.w.length) (hnb:nb=d.bias.length) (mw:nw≤maxLen) (mb:nb≤maxLen) :
  Calls prog 53 #[.agg (nN d.kind d.a d.b d.k d.s d.p d.out d.za d.zb W nw cw B nb cb d.qm d.qs d.qz d.rm d.rs d.rz d.lo d.hi)] w fun e w'=>e=.returned (.bool (decide (aW d)))∧Below w w w':=by
 obtain ⟨r,hr⟩:∃ r,decide (aW d)=r:=⟨_,rfl⟩
 rw [hr]
 have X:decide ((0 < nw ∨ 0 < nb) ∨ d.out ≠ 0 ∨ (d.b ≠ 0 ∨ d.zb ≠ 0 ∨ d.rm ≠ 0 ∨ d.rs ≠ 0) ∨ d.rz ≠ 0 ∨ (d.qm ≠ 0 ∨ d.qs ≠ 0 ∨ d.qz ≠ 0 ∨ d.lo ≠ 0 ∨ d.hi ≠ 0) ∨ d.za ≠ 0)=r:=by
  rw [← hr]
  refine decide_eq_decide.2 ?_
  unfold aW
  rw [hk,← hnw,← hnb]
  simp [bY,bS,aA]
 have R:=zH X
 clear hr X hnw hnb
 unfold maxLen at mw mb
 have FR:=zW w
 rw [hk]
 have SC:=zH (fun w=>bZ 5 w)
 rw [show aA 5=false from rfl] at SC
 clear hk
 obtain ⟨kind,a,b,k,s,p,out,za,zb,wl,bl,qm,qs,qz,rm,rs,rz,lo,hi⟩:=d
 simp only at R ⊢
 obtain ⟨w1,yw1,BN,FR⟩:=nF FR (nN 5 a b k s p out za zb W nw cw B nb cb qm qs qz rm rs rz lo hi) 42
 obtain ⟨c0,c2,c3,c4,c5,c6,c7,c8,c9⟩:=uc9 BN 0 2 3 4 5 6 7 8 9
 obtain ⟨c10,c11,c12,c13,c14,c15,c16,c17,c18⟩:=uc9 BN 10 11 12 13 14 15 16 17 18
 go_in
 go_wp2_with (go_at_call 54;refine (SC.o _).mono ?_;rintro e w' ⟨rfl,rfl⟩)
 all_goals clear c0 c2 c3 c4 c5 c6 c7 c8 c9 c10 c11 c12 c13 c14 c15 c16 c17 c18 SC
 all_goals go_ret
 all_goals exact ⟨au (by rw [← R.o];clear FR R;(try simp only [bne_iff_ne,bne_eq_false_iff_eq] at *);first|exact (qT oM).symm|exact (dF oM).symm|(rw [Bool.eq_iff_iff,bne_iff_ne,decide_eq_true_iff];omega)),FR.u⟩
theorem tT (d:af) (W:QA) (nw cw:Nat) (B:QA) (nb cb:Nat) (w:World) (hk:d.kind=6) (hnw:nw=d.w.length) (hnb:nb=d.bias.length) (mw:nw≤maxLen) (mb:nb≤maxLen) :
  Calls prog 53 #[.agg (nN d.kind d.a d.b d.k d.s d.p d.out d.za d.zb W nw cw B nb cb d.qm d.qs d.qz d.rm d.rs d.rz d.lo d.hi)] w fun e w'=>e=.returned (.bool (decide (aW d)))∧Below w w w':=by
 obtain ⟨r,hr⟩:∃ r,decide (aW d)=r:=⟨_,rfl⟩
 rw [hr]
 have X:decide ((0 < nw ∨ 0 < nb) ∨ d.out ≠ 0 ∨ (d.k ≠ 0 ∨ d.s ≠ 0) ∨ d.p ≠ 0 ∨ d.rz ≠ 0)=r:=by
  rw [← hr]
  refine decide_eq_decide.2 ?_
  unfold aW
  rw [hk,← hnw,← hnb]
  simp [bY,bS,aA]
 have R:=zH X
 clear hr X hnw hnb
 unfold maxLen at mw mb
 have FR:=zW w
 rw [hk]
 have SC:=zH (fun w=>bZ 6 w)
 rw [show aA 6=true from rfl] at SC
 clear hk
 obtain ⟨kind,a,b,k,s,p,out,za,zb,wl,bl,qm,qs,qz,rm,rs,rz,lo,hi⟩:=d
 simp only at R ⊢
 obtain ⟨w1,yw1,BN,FR⟩:=nF FR (nN 6 a b k s p out za zb W nw cw B nb cb qm qs qz rm rs rz lo hi) 42
 obtain ⟨c0,c2,c3,c4,c5,c6,c7,c8,c9⟩:=uc9 BN 0 2 3 4 5 6 7 8 9
 obtain ⟨c10,c11,c12,c13,c14,c15,c16,c17,c18⟩:=uc9 BN 10 11 12 13 14 15 16 17 18
 go_in
 go_wp2_with (go_at_call 54;refine (SC.o _).mono ?_;rintro e w' ⟨rfl,rfl⟩)
 all_goals clear c0 c2 c3 c4 c5 c6 c7 c8 c9 c10 c11 c12 c13 c14 c15 c16 c17 c18 SC
 all_goals go_ret
 all_goals exact ⟨au (by rw [← R.o];clear FR R;(try simp only [bne_iff_ne,bne_eq_false_iff_eq] at *);first|exact (qT oM).symm|exact (dF oM).symm|(rw [Bool.eq_iff_iff,bne_iff_ne,decide_eq_true_iff];omega)),FR.u⟩
theorem tU (d:af) (W:QA) (nw cw:Nat) (B:QA) (nb cb:Nat) (w:World) (hk:d.kind=7) (hnw:nw=d.w.length) (hnb:nb=d.bias.length) (mw:nw≤maxLen) (mb:nb≤maxLen) :
  Calls prog 53 #[.agg (nN d.kind d.a d.b d.k d.s d.p d.out d.za d.zb W nw cw B nb cb d.qm d.qs d.qz d.rm d.rs d.rz d.lo d.hi)] w fun e w'=>e=.returned (.bool (decide (aW d)))∧Below w w w':=by
 obtain ⟨r,hr⟩:∃ r,decide (aW d)=r:=⟨_,rfl⟩
 rw [hr]
 have X:decide ((0 < nw ∨ 0 < nb) ∨ d.out ≠ 0 ∨ (d.k ≠ 0 ∨ d.s ≠ 0) ∨ d.p ≠ 0 ∨ (d.b ≠ 0 ∨ d.zb ≠ 0 ∨ d.rm ≠ 0 ∨ d.rs ≠ 0) ∨ d.rz ≠ 0)=r:=by
  rw [← hr]
  refine decide_eq_decide.2 ?_
  unfold aW
  rw [hk,← hnw,← hnb]
  simp [bY,bS,aA]
 have R:=zH X
 clear hr X hnw hnb
 unfold maxLen at mw mb
 have FR:=zW w
 rw [hk]
 have SC:=zH (fun w=>bZ 7 w)
 rw [show aA 7=true from rfl] at SC
 clear hk
 obtain ⟨kind,a,b,k,s,p,out,za,zb,wl,bl,qm,qs,qz,rm,rs,rz,lo,hi⟩:=d
 simp only at R ⊢
 obtain ⟨w1,yw1,BN,FR⟩:=nF FR (nN 7 a b k s p out za zb W nw cw B nb cb qm qs qz rm rs rz lo hi) 42
 obtain ⟨c0,c2,c3,c4,c5,c6,c7,c8,c9⟩:=uc9 BN 0 2 3 4 5 6 7 8 9
 obtain ⟨c10,c11,c12,c13,c14,c15,c16,c17,c18⟩:=uc9 BN 10 11 12 13 14 15 16 17 18
 go_in
 go_wp2_with (go_at_call 54;refine (SC.o _).mono ?_;rintro e w' ⟨rfl,rfl⟩)
 all_goals clear c0 c2 c3 c4 c5 c6 c7 c8 c9 c10 c11 c12 c13 c14 c15 c16 c17 c18 SC
 all_goals go_ret
 all_goals exact ⟨au (by rw [← R.o];clear FR R;(try simp only [bne_iff_ne,bne_eq_false_iff_eq] at *);first|exact (qT oM).symm|exact (dF oM).symm|(rw [Bool.eq_iff_iff,bne_iff_ne,decide_eq_true_iff];omega)),FR.u⟩
theorem tV (d:af) (W:QA) (nw cw:Nat) (B:QA) (nb cb:Nat) (w:World) (hk:d.kind=8) (hnw:nw=d.w.length) (hnb:nb=d.bias.length) (mw:nw≤maxLen) (mb:nb≤maxLen) :
  Calls prog 53 #[.agg (nN d.kind d.a d.b d.k d.s d.p d.out d.za d.zb W nw cw B nb cb d.qm d.qs d.qz d.rm d.rs d.rz d.lo d.hi)] w fun e w'=>e=.returned (.bool (decide (aW d)))∧Below w w w':=by
 obtain ⟨r,hr⟩:∃ r,decide (aW d)=r:=⟨_,rfl⟩
 rw [hr]
 have X:decide ((0 < nw ∨ 0 < nb) ∨ d.out ≠ 0 ∨ (d.k ≠ 0 ∨ d.s ≠ 0) ∨ (d.b ≠ 0 ∨ d.zb ≠ 0 ∨ d.rm ≠ 0 ∨ d.rs ≠ 0) ∨ d.rz ≠ 0 ∨ (d.qm ≠ 0 ∨ d.qs ≠ 0 ∨ d.qz ≠ 0 ∨ d.lo ≠ 0 ∨ d.hi ≠ 0))=r:=by
  rw [← hr]
  refine decide_eq_decide.2 ?_
  unfold aW
  rw [hk,← hnw,← hnb]
  simp [bY,bS,aA]
 have R:=zH X
 clear hr X hnw hnb
 unfold maxLen at mw mb
 have FR:=zW w
 rw [hk]
 have SC:=zH (fun w=>bZ 8 w)
 rw [show aA 8=false from rfl] at SC
 clear hk
 obtain ⟨kind,a,b,k,s,p,out,za,zb,wl,bl,qm,qs,qz,rm,rs,rz,lo,hi⟩:=d
 simp only at R ⊢
 obtain ⟨w1,yw1,BN,FR⟩:=nF FR (nN 8 a b k s p out za zb W nw cw B nb cb qm qs qz rm rs rz lo hi) 42
 obtain ⟨c0,c2,c3,c4,c5,c6,c7,c8,c9⟩:=uc9 BN 0 2 3 4 5 6 7 8 9
 obtain ⟨c10,c11,c12,c13,c14,c15,c16,c17,c18⟩:=uc9 BN 10 11 12 13 14 15 16 17 18
 go_in
 go_wp2_with (go_at_call 54;refine (SC.o _).mono ?_;rintro e w' ⟨rfl,rfl⟩)
 all_goals clear c0 c2 c3 c4 c5 c6 c7 c8 c9 c10 c11 c12 c13 c14 c15 c16 c17 c18 SC
 all_goals go_ret
 all_goals exact ⟨au (by rw [← R.o];clear FR R;(try simp only [bne_iff_ne,bne_eq_false_iff_eq] at *);first|exact (qT oM).symm|exact (dF oM).symm|(rw [Bool.eq_iff_iff,bne_iff_ne,decide_eq_true_iff];omega)),FR.u⟩
theorem tW (d:af) (W:QA) (nw cw:Nat) (B:QA) (nb cb:Nat) (w:World) (hk:d.kind=9) (hnw:nw=d.w.length) (hnb:nb=d.bias.length) (mw:nw≤maxLen) (mb:nb≤maxLen) :
  Calls prog 53 #[.agg (nN d.kind d.a d.b d.k d.s d.p d.out d.za d.zb W nw cw B nb cb d.qm d.qs d.qz d.rm d.rs d.rz d.lo d.hi)] w fun e w'=>e=.returned (.bool (decide (aW d)))∧Below w w w':=by
 obtain ⟨r,hr⟩:∃ r,decide (aW d)=r:=⟨_,rfl⟩
 rw [hr]
 have X:decide ((0 < nw ∨ 0 < nb) ∨ d.out ≠ 0 ∨ (d.k ≠ 0 ∨ d.s ≠ 0) ∨ d.p ≠ 0 ∨ (d.b ≠ 0 ∨ d.zb ≠ 0 ∨ d.rm ≠ 0 ∨ d.rs ≠ 0) ∨ d.rz ≠ 0 ∨ (d.qm ≠ 0 ∨ d.qs ≠ 0 ∨ d.qz ≠ 0 ∨ d.lo ≠ 0 ∨ d.hi ≠ 0) ∨ d.za ≠ 0)=r:=by
  rw [← hr]
  refine decide_eq_decide.2 ?_
  unfold aW
  rw [hk,← hnw,← hnb]
  simp [bY,bS,aA]
 have R:=zH X
 clear hr X hnw hnb
 unfold maxLen at mw mb
 have FR:=zW w
 rw [hk]
 have SC:=zH (fun w=>bZ 9 w)
 rw [show aA 9=false from rfl] at SC
 clear hk
 obtain ⟨kind,a,b,k,s,p,out,za,zb,wl,bl,qm,qs,qz,rm,rs,rz,lo,hi⟩:=d
 simp only at R ⊢
 obtain ⟨w1,yw1,BN,FR⟩:=nF FR (nN 9 a b k s p out za zb W nw cw B nb cb qm qs qz rm rs rz lo hi) 42
 obtain ⟨c0,c2,c3,c4,c5,c6,c7,c8,c9⟩:=uc9 BN 0 2 3 4 5 6 7 8 9
 obtain ⟨c10,c11,c12,c13,c14,c15,c16,c17,c18⟩:=uc9 BN 10 11 12 13 14 15 16 17 18
 go_in
 go_wp2_with (go_at_call 54;refine (SC.o _).mono ?_;rintro e w' ⟨rfl,rfl⟩)
 all_goals clear c0 c2 c3 c4 c5 c6 c7 c8 c9 c10 c11 c12 c13 c14 c15 c16 c17 c18 SC
 all_goals go_ret
 all_goals exact ⟨au (by rw [← R.o];clear FR R;(try simp only [bne_iff_ne,bne_eq_false_iff_eq] at *);first|exact (qT oM).symm|exact (dF oM).symm|(rw [Bool.eq_iff_iff,bne_iff_ne,decide_eq_true_iff];omega)),FR.u⟩
end Go.Proofs.YtmihnoagagbgaaaGreat
