/-
  What a node tells that its kind does not (layer 25): the document's More.
-/
import Derived.Test.YtppcjcigekoipaaGreatJ07
set_option linter.unusedVariables false
set_option linter.unusedSimpArgs false
namespace Go.Proofs.YtppcjcigekoipaaGreat
open Go.RowKit Go.ChangeShapes Go.WideShapes
set_option maxRecDepth 100000
def slidesK (k:Int):Bool:=decide (k=1 ∨ k=2 ∨ k=4 ∨ k=5)
def moreP (d:Node):Prop :=
 (sumsK d.kind=false∧(0 < d.w.length ∨ 0 < d.bias.length)) ∨ (d.kind ≠ 1∧d.kind ≠ 3∧d.out ≠ 0) ∨ (slidesK d.kind=false∧(d.k ≠ 0 ∨ d.s ≠ 0)) ∨ (slidesK d.kind=false∧d.kind ≠ 8∧d.p ≠ 0)
  ∨ (d.kind ≠ 6∧(d.b ≠ 0 ∨ d.zb ≠ 0 ∨ d.rm ≠ 0 ∨ d.rs ≠ 0)) ∨ d.rz ≠ 0 ∨ (scaledK d.kind=false∧(d.qm ≠ 0 ∨ d.qs ≠ 0 ∨ d.qz ≠ 0 ∨ d.lo ≠ 0 ∨ d.hi ≠ 0)) ∨ (scaledK d.kind=false∧d.kind ≠ 8∧d.za ≠ 0)
instance (d:Node):Decidable (moreP d):=inferInstanceAs (Decidable (_ ∨ _))
set_option maxHeartbeats 4000000 in
theorem more_1 (d:Node) (W:Option Addr) (nw cw:Nat) (B:Option Addr) (nb cb:Nat) (w:World) (hk:d.kind=1) (hnw:nw=d.w.length) (hnb:nb=d.bias.length) (mw:nw≤maxLen) (mb:nb≤maxLen) :
  Calls Tryz.prog 77 #[.agg (nN d.kind d.a d.b d.k d.s d.p d.out d.za d.zb W nw cw B nb cb d.qm d.qs d.qz d.rm d.rs d.rz d.lo d.hi)] w fun e w'=>e=.returned (.bool (decide (moreP d)))∧Below w.heap.size w w':=by
 obtain ⟨r,hr⟩:∃ r,decide (moreP d)=r:=⟨_,rfl⟩
 rw [hr]
 have X:decide ((d.b ≠ 0 ∨ d.zb ≠ 0 ∨ d.rm ≠ 0 ∨ d.rs ≠ 0) ∨ d.rz ≠ 0)=r:=by
  rw [← hr]
  refine decide_eq_decide.2 ?_
  unfold moreP
  rw [hk,← hnw,← hnb]
  simp [sumsK,slidesK,scaledK]
 have R:=zH X
 clear hr X hnw hnb
 unfold maxLen at mw mb
 have FR:=zH (Far.refl w)
 rw [hk]
 have SC:=zH (fun w=>rscaled_any 1 w)
 rw [show scaledK 1=true from rfl] at SC
 clear hk
 obtain ⟨kind,a,b,k,s,p,out,za,zb,wl,bl,qm,qs,qz,rm,rs,rz,lo,hi⟩:=d
 simp only at R ⊢
 obtain ⟨w1,hw_w1,BN,k_w1⟩:=nB w (nN 1 a b k s p out za zb W nw cw B nb cb qm qs qz rm rs rz lo hi) 87
 replace FR:=zH (FR.out.fut k_w1)
 clear k_w1
 have c0:=BN.out.cell 0
 have c2:=BN.out.cell 2
 have c3:=BN.out.cell 3
 have c4:=BN.out.cell 4
 have c5:=BN.out.cell 5
 have c6:=BN.out.cell 6
 have c7:=BN.out.cell 7
 have c8:=BN.out.cell 8
 have c9:=BN.out.cell 9
 have c10:=BN.out.cell 10
 have c11:=BN.out.cell 11
 have c12:=BN.out.cell 12
 have c13:=BN.out.cell 13
 have c14:=BN.out.cell 14
 have c15:=BN.out.cell 15
 have c16:=BN.out.cell 16
 have c17:=BN.out.cell 17
 have c18:=BN.out.cell 18
 go_enter Tryz.func77,Tryz.ntmps77
 go_wp2_with (go_at_call 78;refine (SC.out _).mono ?_;rintro e w' ⟨rfl,rfl⟩)
 all_goals clear c0 c2 c3 c4 c5 c6 c7 c8 c9 c10 c11 c12 c13 c14 c15 c16 c17 c18 SC
 all_goals go_ret
 all_goals exact ⟨ret_bool (by rw [← R.out];clear FR R;(try simp only [bne_iff_ne,bne_eq_false_iff_eq] at *);first|exact (decide_eq_true (by omega)).symm|exact (decide_eq_false (by omega)).symm|(rw [Bool.eq_iff_iff,bne_iff_ne,decide_eq_true_iff];omega)),FR.out.out⟩
set_option maxHeartbeats 4000000 in
theorem more_2 (d:Node) (W:Option Addr) (nw cw:Nat) (B:Option Addr) (nb cb:Nat) (w:World) (hk:d.kind=2) (hnw:nw=d.w.length) (hnb:nb=d.bias.length) (mw:nw≤maxLen) (mb:nb≤maxLen) :
  Calls Tryz.prog 77 #[.agg (nN d.kind d.a d.b d.k d.s d.p d.out d.za d.zb W nw cw B nb cb d.qm d.qs d.qz d.rm d.rs d.rz d.lo d.hi)] w fun e w'=>e=.returned (.bool (decide (moreP d)))∧Below w.heap.size w w':=by
 obtain ⟨r,hr⟩:∃ r,decide (moreP d)=r:=⟨_,rfl⟩
 rw [hr]
 have X:decide (d.out ≠ 0 ∨ (d.b ≠ 0 ∨ d.zb ≠ 0 ∨ d.rm ≠ 0 ∨ d.rs ≠ 0) ∨ d.rz ≠ 0)=r:=by
  rw [← hr]
  refine decide_eq_decide.2 ?_
  unfold moreP
  rw [hk,← hnw,← hnb]
  simp [sumsK,slidesK,scaledK]
 have R:=zH X
 clear hr X hnw hnb
 unfold maxLen at mw mb
 have FR:=zH (Far.refl w)
 rw [hk]
 have SC:=zH (fun w=>rscaled_any 2 w)
 rw [show scaledK 2=true from rfl] at SC
 clear hk
 obtain ⟨kind,a,b,k,s,p,out,za,zb,wl,bl,qm,qs,qz,rm,rs,rz,lo,hi⟩:=d
 simp only at R ⊢
 obtain ⟨w1,hw_w1,BN,k_w1⟩:=nB w (nN 2 a b k s p out za zb W nw cw B nb cb qm qs qz rm rs rz lo hi) 87
 replace FR:=zH (FR.out.fut k_w1)
 clear k_w1
 have c0:=BN.out.cell 0
 have c2:=BN.out.cell 2
 have c3:=BN.out.cell 3
 have c4:=BN.out.cell 4
 have c5:=BN.out.cell 5
 have c6:=BN.out.cell 6
 have c7:=BN.out.cell 7
 have c8:=BN.out.cell 8
 have c9:=BN.out.cell 9
 have c10:=BN.out.cell 10
 have c11:=BN.out.cell 11
 have c12:=BN.out.cell 12
 have c13:=BN.out.cell 13
 have c14:=BN.out.cell 14
 have c15:=BN.out.cell 15
 have c16:=BN.out.cell 16
 have c17:=BN.out.cell 17
 have c18:=BN.out.cell 18
 go_enter Tryz.func77,Tryz.ntmps77
 go_wp2_with (go_at_call 78;refine (SC.out _).mono ?_;rintro e w' ⟨rfl,rfl⟩)
 all_goals clear c0 c2 c3 c4 c5 c6 c7 c8 c9 c10 c11 c12 c13 c14 c15 c16 c17 c18 SC
 all_goals go_ret
 all_goals exact ⟨ret_bool (by rw [← R.out];clear FR R;(try simp only [bne_iff_ne,bne_eq_false_iff_eq] at *);first|exact (decide_eq_true (by omega)).symm|exact (decide_eq_false (by omega)).symm|(rw [Bool.eq_iff_iff,bne_iff_ne,decide_eq_true_iff];omega)),FR.out.out⟩
set_option maxHeartbeats 4000000 in
theorem more_3 (d:Node) (W:Option Addr) (nw cw:Nat) (B:Option Addr) (nb cb:Nat) (w:World) (hk:d.kind=3) (hnw:nw=d.w.length) (hnb:nb=d.bias.length) (mw:nw≤maxLen) (mb:nb≤maxLen) :
  Calls Tryz.prog 77 #[.agg (nN d.kind d.a d.b d.k d.s d.p d.out d.za d.zb W nw cw B nb cb d.qm d.qs d.qz d.rm d.rs d.rz d.lo d.hi)] w fun e w'=>e=.returned (.bool (decide (moreP d)))∧Below w.heap.size w w':=by
 obtain ⟨r,hr⟩:∃ r,decide (moreP d)=r:=⟨_,rfl⟩
 rw [hr]
 have X:decide ((d.k ≠ 0 ∨ d.s ≠ 0) ∨ d.p ≠ 0 ∨ (d.b ≠ 0 ∨ d.zb ≠ 0 ∨ d.rm ≠ 0 ∨ d.rs ≠ 0) ∨ d.rz ≠ 0)=r:=by
  rw [← hr]
  refine decide_eq_decide.2 ?_
  unfold moreP
  rw [hk,← hnw,← hnb]
  simp [sumsK,slidesK,scaledK]
 have R:=zH X
 clear hr X hnw hnb
 unfold maxLen at mw mb
 have FR:=zH (Far.refl w)
 rw [hk]
 have SC:=zH (fun w=>rscaled_any 3 w)
 rw [show scaledK 3=true from rfl] at SC
 clear hk
 obtain ⟨kind,a,b,k,s,p,out,za,zb,wl,bl,qm,qs,qz,rm,rs,rz,lo,hi⟩:=d
 simp only at R ⊢
 obtain ⟨w1,hw_w1,BN,k_w1⟩:=nB w (nN 3 a b k s p out za zb W nw cw B nb cb qm qs qz rm rs rz lo hi) 87
 replace FR:=zH (FR.out.fut k_w1)
 clear k_w1
 have c0:=BN.out.cell 0
 have c2:=BN.out.cell 2
 have c3:=BN.out.cell 3
 have c4:=BN.out.cell 4
 have c5:=BN.out.cell 5
 have c6:=BN.out.cell 6
 have c7:=BN.out.cell 7
 have c8:=BN.out.cell 8
 have c9:=BN.out.cell 9
 have c10:=BN.out.cell 10
 have c11:=BN.out.cell 11
 have c12:=BN.out.cell 12
 have c13:=BN.out.cell 13
 have c14:=BN.out.cell 14
 have c15:=BN.out.cell 15
 have c16:=BN.out.cell 16
 have c17:=BN.out.cell 17
 have c18:=BN.out.cell 18
 go_enter Tryz.func77,Tryz.ntmps77
 go_wp2_with (go_at_call 78;refine (SC.out _).mono ?_;rintro e w' ⟨rfl,rfl⟩)
 all_goals clear c0 c2 c3 c4 c5 c6 c7 c8 c9 c10 c11 c12 c13 c14 c15 c16 c17 c18 SC
 all_goals go_ret
 all_goals exact ⟨ret_bool (by rw [← R.out];clear FR R;(try simp only [bne_iff_ne,bne_eq_false_iff_eq] at *);first|exact (decide_eq_true (by omega)).symm|exact (decide_eq_false (by omega)).symm|(rw [Bool.eq_iff_iff,bne_iff_ne,decide_eq_true_iff];omega)),FR.out.out⟩
set_option maxHeartbeats 4000000 in
theorem more_4 (d:Node) (W:Option Addr) (nw cw:Nat) (B:Option Addr) (nb cb:Nat) (w:World) (hk:d.kind=4) (hnw:nw=d.w.length) (hnb:nb=d.bias.length) (mw:nw≤maxLen) (mb:nb≤maxLen) :
  Calls Tryz.prog 77 #[.agg (nN d.kind d.a d.b d.k d.s d.p d.out d.za d.zb W nw cw B nb cb d.qm d.qs d.qz d.rm d.rs d.rz d.lo d.hi)] w fun e w'=>e=.returned (.bool (decide (moreP d)))∧Below w.heap.size w w':=by
 obtain ⟨r,hr⟩:∃ r,decide (moreP d)=r:=⟨_,rfl⟩
 rw [hr]
 have X:decide ((0 < nw ∨ 0 < nb) ∨ d.out ≠ 0 ∨ (d.b ≠ 0 ∨ d.zb ≠ 0 ∨ d.rm ≠ 0 ∨ d.rs ≠ 0) ∨ d.rz ≠ 0 ∨ (d.qm ≠ 0 ∨ d.qs ≠ 0 ∨ d.qz ≠ 0 ∨ d.lo ≠ 0 ∨ d.hi ≠ 0) ∨ d.za ≠ 0)=r:=by
  rw [← hr]
  refine decide_eq_decide.2 ?_
  unfold moreP
  rw [hk,← hnw,← hnb]
  simp [sumsK,slidesK,scaledK]
 have R:=zH X
 clear hr X hnw hnb
 unfold maxLen at mw mb
 have FR:=zH (Far.refl w)
 rw [hk]
 have SC:=zH (fun w=>rscaled_any 4 w)
 rw [show scaledK 4=false from rfl] at SC
 clear hk
 obtain ⟨kind,a,b,k,s,p,out,za,zb,wl,bl,qm,qs,qz,rm,rs,rz,lo,hi⟩:=d
 simp only at R ⊢
 obtain ⟨w1,hw_w1,BN,k_w1⟩:=nB w (nN 4 a b k s p out za zb W nw cw B nb cb qm qs qz rm rs rz lo hi) 87
 replace FR:=zH (FR.out.fut k_w1)
 clear k_w1
 have c0:=BN.out.cell 0
 have c2:=BN.out.cell 2
 have c3:=BN.out.cell 3
 have c4:=BN.out.cell 4
 have c5:=BN.out.cell 5
 have c6:=BN.out.cell 6
 have c7:=BN.out.cell 7
 have c8:=BN.out.cell 8
 have c9:=BN.out.cell 9
 have c10:=BN.out.cell 10
 have c11:=BN.out.cell 11
 have c12:=BN.out.cell 12
 have c13:=BN.out.cell 13
 have c14:=BN.out.cell 14
 have c15:=BN.out.cell 15
 have c16:=BN.out.cell 16
 have c17:=BN.out.cell 17
 have c18:=BN.out.cell 18
 go_enter Tryz.func77,Tryz.ntmps77
 go_wp2_with (go_at_call 78;refine (SC.out _).mono ?_;rintro e w' ⟨rfl,rfl⟩)
 all_goals clear c0 c2 c3 c4 c5 c6 c7 c8 c9 c10 c11 c12 c13 c14 c15 c16 c17 c18 SC
 all_goals go_ret
 all_goals exact ⟨ret_bool (by rw [← R.out];clear FR R;(try simp only [bne_iff_ne,bne_eq_false_iff_eq] at *);first|exact (decide_eq_true (by omega)).symm|exact (decide_eq_false (by omega)).symm|(rw [Bool.eq_iff_iff,bne_iff_ne,decide_eq_true_iff];omega)),FR.out.out⟩
set_option maxHeartbeats 4000000 in
theorem more_5 (d:Node) (W:Option Addr) (nw cw:Nat) (B:Option Addr) (nb cb:Nat) (w:World) (hk:d.kind=5) (hnw:nw=d.w.length) (hnb:nb=d.bias.length) (mw:nw≤maxLen) (mb:nb≤maxLen) :
  Calls Tryz.prog 77 #[.agg (nN d.kind d.a d.b d.k d.s d.p d.out d.za d.zb W nw cw B nb cb d.qm d.qs d.qz d.rm d.rs d.rz d.lo d.hi)] w fun e w'=>e=.returned (.bool (decide (moreP d)))∧Below w.heap.size w w':=by
 obtain ⟨r,hr⟩:∃ r,decide (moreP d)=r:=⟨_,rfl⟩
 rw [hr]
 have X:decide ((0 < nw ∨ 0 < nb) ∨ d.out ≠ 0 ∨ (d.b ≠ 0 ∨ d.zb ≠ 0 ∨ d.rm ≠ 0 ∨ d.rs ≠ 0) ∨ d.rz ≠ 0 ∨ (d.qm ≠ 0 ∨ d.qs ≠ 0 ∨ d.qz ≠ 0 ∨ d.lo ≠ 0 ∨ d.hi ≠ 0) ∨ d.za ≠ 0)=r:=by
  rw [← hr]
  refine decide_eq_decide.2 ?_
  unfold moreP
  rw [hk,← hnw,← hnb]
  simp [sumsK,slidesK,scaledK]
 have R:=zH X
 clear hr X hnw hnb
 unfold maxLen at mw mb
 have FR:=zH (Far.refl w)
 rw [hk]
 have SC:=zH (fun w=>rscaled_any 5 w)
 rw [show scaledK 5=false from rfl] at SC
 clear hk
 obtain ⟨kind,a,b,k,s,p,out,za,zb,wl,bl,qm,qs,qz,rm,rs,rz,lo,hi⟩:=d
 simp only at R ⊢
 obtain ⟨w1,hw_w1,BN,k_w1⟩:=nB w (nN 5 a b k s p out za zb W nw cw B nb cb qm qs qz rm rs rz lo hi) 87
 replace FR:=zH (FR.out.fut k_w1)
 clear k_w1
 have c0:=BN.out.cell 0
 have c2:=BN.out.cell 2
 have c3:=BN.out.cell 3
 have c4:=BN.out.cell 4
 have c5:=BN.out.cell 5
 have c6:=BN.out.cell 6
 have c7:=BN.out.cell 7
 have c8:=BN.out.cell 8
 have c9:=BN.out.cell 9
 have c10:=BN.out.cell 10
 have c11:=BN.out.cell 11
 have c12:=BN.out.cell 12
 have c13:=BN.out.cell 13
 have c14:=BN.out.cell 14
 have c15:=BN.out.cell 15
 have c16:=BN.out.cell 16
 have c17:=BN.out.cell 17
 have c18:=BN.out.cell 18
 go_enter Tryz.func77,Tryz.ntmps77
 go_wp2_with (go_at_call 78;refine (SC.out _).mono ?_;rintro e w' ⟨rfl,rfl⟩)
 all_goals clear c0 c2 c3 c4 c5 c6 c7 c8 c9 c10 c11 c12 c13 c14 c15 c16 c17 c18 SC
 all_goals go_ret
 all_goals exact ⟨ret_bool (by rw [← R.out];clear FR R;(try simp only [bne_iff_ne,bne_eq_false_iff_eq] at *);first|exact (decide_eq_true (by omega)).symm|exact (decide_eq_false (by omega)).symm|(rw [Bool.eq_iff_iff,bne_iff_ne,decide_eq_true_iff];omega)),FR.out.out⟩
set_option maxHeartbeats 4000000 in
theorem more_6 (d:Node) (W:Option Addr) (nw cw:Nat) (B:Option Addr) (nb cb:Nat) (w:World) (hk:d.kind=6) (hnw:nw=d.w.length) (hnb:nb=d.bias.length) (mw:nw≤maxLen) (mb:nb≤maxLen) :
  Calls Tryz.prog 77 #[.agg (nN d.kind d.a d.b d.k d.s d.p d.out d.za d.zb W nw cw B nb cb d.qm d.qs d.qz d.rm d.rs d.rz d.lo d.hi)] w fun e w'=>e=.returned (.bool (decide (moreP d)))∧Below w.heap.size w w':=by
 obtain ⟨r,hr⟩:∃ r,decide (moreP d)=r:=⟨_,rfl⟩
 rw [hr]
 have X:decide ((0 < nw ∨ 0 < nb) ∨ d.out ≠ 0 ∨ (d.k ≠ 0 ∨ d.s ≠ 0) ∨ d.p ≠ 0 ∨ d.rz ≠ 0)=r:=by
  rw [← hr]
  refine decide_eq_decide.2 ?_
  unfold moreP
  rw [hk,← hnw,← hnb]
  simp [sumsK,slidesK,scaledK]
 have R:=zH X
 clear hr X hnw hnb
 unfold maxLen at mw mb
 have FR:=zH (Far.refl w)
 rw [hk]
 have SC:=zH (fun w=>rscaled_any 6 w)
 rw [show scaledK 6=true from rfl] at SC
 clear hk
 obtain ⟨kind,a,b,k,s,p,out,za,zb,wl,bl,qm,qs,qz,rm,rs,rz,lo,hi⟩:=d
 simp only at R ⊢
 obtain ⟨w1,hw_w1,BN,k_w1⟩:=nB w (nN 6 a b k s p out za zb W nw cw B nb cb qm qs qz rm rs rz lo hi) 87
 replace FR:=zH (FR.out.fut k_w1)
 clear k_w1
 have c0:=BN.out.cell 0
 have c2:=BN.out.cell 2
 have c3:=BN.out.cell 3
 have c4:=BN.out.cell 4
 have c5:=BN.out.cell 5
 have c6:=BN.out.cell 6
 have c7:=BN.out.cell 7
 have c8:=BN.out.cell 8
 have c9:=BN.out.cell 9
 have c10:=BN.out.cell 10
 have c11:=BN.out.cell 11
 have c12:=BN.out.cell 12
 have c13:=BN.out.cell 13
 have c14:=BN.out.cell 14
 have c15:=BN.out.cell 15
 have c16:=BN.out.cell 16
 have c17:=BN.out.cell 17
 have c18:=BN.out.cell 18
 go_enter Tryz.func77,Tryz.ntmps77
 go_wp2_with (go_at_call 78;refine (SC.out _).mono ?_;rintro e w' ⟨rfl,rfl⟩)
 all_goals clear c0 c2 c3 c4 c5 c6 c7 c8 c9 c10 c11 c12 c13 c14 c15 c16 c17 c18 SC
 all_goals go_ret
 all_goals exact ⟨ret_bool (by rw [← R.out];clear FR R;(try simp only [bne_iff_ne,bne_eq_false_iff_eq] at *);first|exact (decide_eq_true (by omega)).symm|exact (decide_eq_false (by omega)).symm|(rw [Bool.eq_iff_iff,bne_iff_ne,decide_eq_true_iff];omega)),FR.out.out⟩
set_option maxHeartbeats 4000000 in
theorem more_7 (d:Node) (W:Option Addr) (nw cw:Nat) (B:Option Addr) (nb cb:Nat) (w:World) (hk:d.kind=7) (hnw:nw=d.w.length) (hnb:nb=d.bias.length) (mw:nw≤maxLen) (mb:nb≤maxLen) :
  Calls Tryz.prog 77 #[.agg (nN d.kind d.a d.b d.k d.s d.p d.out d.za d.zb W nw cw B nb cb d.qm d.qs d.qz d.rm d.rs d.rz d.lo d.hi)] w fun e w'=>e=.returned (.bool (decide (moreP d)))∧Below w.heap.size w w':=by
 obtain ⟨r,hr⟩:∃ r,decide (moreP d)=r:=⟨_,rfl⟩
 rw [hr]
 have X:decide ((0 < nw ∨ 0 < nb) ∨ d.out ≠ 0 ∨ (d.k ≠ 0 ∨ d.s ≠ 0) ∨ d.p ≠ 0 ∨ (d.b ≠ 0 ∨ d.zb ≠ 0 ∨ d.rm ≠ 0 ∨ d.rs ≠ 0) ∨ d.rz ≠ 0)=r:=by
  rw [← hr]
  refine decide_eq_decide.2 ?_
  unfold moreP
  rw [hk,← hnw,← hnb]
  simp [sumsK,slidesK,scaledK]
 have R:=zH X
 clear hr X hnw hnb
 unfold maxLen at mw mb
 have FR:=zH (Far.refl w)
 rw [hk]
 have SC:=zH (fun w=>rscaled_any 7 w)
 rw [show scaledK 7=true from rfl] at SC
 clear hk
 obtain ⟨kind,a,b,k,s,p,out,za,zb,wl,bl,qm,qs,qz,rm,rs,rz,lo,hi⟩:=d
 simp only at R ⊢
 obtain ⟨w1,hw_w1,BN,k_w1⟩:=nB w (nN 7 a b k s p out za zb W nw cw B nb cb qm qs qz rm rs rz lo hi) 87
 replace FR:=zH (FR.out.fut k_w1)
 clear k_w1
 have c0:=BN.out.cell 0
 have c2:=BN.out.cell 2
 have c3:=BN.out.cell 3
 have c4:=BN.out.cell 4
 have c5:=BN.out.cell 5
 have c6:=BN.out.cell 6
 have c7:=BN.out.cell 7
 have c8:=BN.out.cell 8
 have c9:=BN.out.cell 9
 have c10:=BN.out.cell 10
 have c11:=BN.out.cell 11
 have c12:=BN.out.cell 12
 have c13:=BN.out.cell 13
 have c14:=BN.out.cell 14
 have c15:=BN.out.cell 15
 have c16:=BN.out.cell 16
 have c17:=BN.out.cell 17
 have c18:=BN.out.cell 18
 go_enter Tryz.func77,Tryz.ntmps77
 go_wp2_with (go_at_call 78;refine (SC.out _).mono ?_;rintro e w' ⟨rfl,rfl⟩)
 all_goals clear c0 c2 c3 c4 c5 c6 c7 c8 c9 c10 c11 c12 c13 c14 c15 c16 c17 c18 SC
 all_goals go_ret
 all_goals exact ⟨ret_bool (by rw [← R.out];clear FR R;(try simp only [bne_iff_ne,bne_eq_false_iff_eq] at *);first|exact (decide_eq_true (by omega)).symm|exact (decide_eq_false (by omega)).symm|(rw [Bool.eq_iff_iff,bne_iff_ne,decide_eq_true_iff];omega)),FR.out.out⟩
set_option maxHeartbeats 4000000 in
theorem more_8 (d:Node) (W:Option Addr) (nw cw:Nat) (B:Option Addr) (nb cb:Nat) (w:World) (hk:d.kind=8) (hnw:nw=d.w.length) (hnb:nb=d.bias.length) (mw:nw≤maxLen) (mb:nb≤maxLen) :
  Calls Tryz.prog 77 #[.agg (nN d.kind d.a d.b d.k d.s d.p d.out d.za d.zb W nw cw B nb cb d.qm d.qs d.qz d.rm d.rs d.rz d.lo d.hi)] w fun e w'=>e=.returned (.bool (decide (moreP d)))∧Below w.heap.size w w':=by
 obtain ⟨r,hr⟩:∃ r,decide (moreP d)=r:=⟨_,rfl⟩
 rw [hr]
 have X:decide ((0 < nw ∨ 0 < nb) ∨ d.out ≠ 0 ∨ (d.k ≠ 0 ∨ d.s ≠ 0) ∨ (d.b ≠ 0 ∨ d.zb ≠ 0 ∨ d.rm ≠ 0 ∨ d.rs ≠ 0) ∨ d.rz ≠ 0 ∨ (d.qm ≠ 0 ∨ d.qs ≠ 0 ∨ d.qz ≠ 0 ∨ d.lo ≠ 0 ∨ d.hi ≠ 0))=r:=by
  rw [← hr]
  refine decide_eq_decide.2 ?_
  unfold moreP
  rw [hk,← hnw,← hnb]
  simp [sumsK,slidesK,scaledK]
 have R:=zH X
 clear hr X hnw hnb
 unfold maxLen at mw mb
 have FR:=zH (Far.refl w)
 rw [hk]
 have SC:=zH (fun w=>rscaled_any 8 w)
 rw [show scaledK 8=false from rfl] at SC
 clear hk
 obtain ⟨kind,a,b,k,s,p,out,za,zb,wl,bl,qm,qs,qz,rm,rs,rz,lo,hi⟩:=d
 simp only at R ⊢
 obtain ⟨w1,hw_w1,BN,k_w1⟩:=nB w (nN 8 a b k s p out za zb W nw cw B nb cb qm qs qz rm rs rz lo hi) 87
 replace FR:=zH (FR.out.fut k_w1)
 clear k_w1
 have c0:=BN.out.cell 0
 have c2:=BN.out.cell 2
 have c3:=BN.out.cell 3
 have c4:=BN.out.cell 4
 have c5:=BN.out.cell 5
 have c6:=BN.out.cell 6
 have c7:=BN.out.cell 7
 have c8:=BN.out.cell 8
 have c9:=BN.out.cell 9
 have c10:=BN.out.cell 10
 have c11:=BN.out.cell 11
 have c12:=BN.out.cell 12
 have c13:=BN.out.cell 13
 have c14:=BN.out.cell 14
 have c15:=BN.out.cell 15
 have c16:=BN.out.cell 16
 have c17:=BN.out.cell 17
 have c18:=BN.out.cell 18
 go_enter Tryz.func77,Tryz.ntmps77
 go_wp2_with (go_at_call 78;refine (SC.out _).mono ?_;rintro e w' ⟨rfl,rfl⟩)
 all_goals clear c0 c2 c3 c4 c5 c6 c7 c8 c9 c10 c11 c12 c13 c14 c15 c16 c17 c18 SC
 all_goals go_ret
 all_goals exact ⟨ret_bool (by rw [← R.out];clear FR R;(try simp only [bne_iff_ne,bne_eq_false_iff_eq] at *);first|exact (decide_eq_true (by omega)).symm|exact (decide_eq_false (by omega)).symm|(rw [Bool.eq_iff_iff,bne_iff_ne,decide_eq_true_iff];omega)),FR.out.out⟩
set_option maxHeartbeats 4000000 in
theorem more_9 (d:Node) (W:Option Addr) (nw cw:Nat) (B:Option Addr) (nb cb:Nat) (w:World) (hk:d.kind=9) (hnw:nw=d.w.length) (hnb:nb=d.bias.length) (mw:nw≤maxLen) (mb:nb≤maxLen) :
  Calls Tryz.prog 77 #[.agg (nN d.kind d.a d.b d.k d.s d.p d.out d.za d.zb W nw cw B nb cb d.qm d.qs d.qz d.rm d.rs d.rz d.lo d.hi)] w fun e w'=>e=.returned (.bool (decide (moreP d)))∧Below w.heap.size w w':=by
 obtain ⟨r,hr⟩:∃ r,decide (moreP d)=r:=⟨_,rfl⟩
 rw [hr]
 have X:decide ((0 < nw ∨ 0 < nb) ∨ d.out ≠ 0 ∨ (d.k ≠ 0 ∨ d.s ≠ 0) ∨ d.p ≠ 0 ∨ (d.b ≠ 0 ∨ d.zb ≠ 0 ∨ d.rm ≠ 0 ∨ d.rs ≠ 0) ∨ d.rz ≠ 0 ∨ (d.qm ≠ 0 ∨ d.qs ≠ 0 ∨ d.qz ≠ 0 ∨ d.lo ≠ 0 ∨ d.hi ≠ 0) ∨ d.za ≠ 0)=r:=by
  rw [← hr]
  refine decide_eq_decide.2 ?_
  unfold moreP
  rw [hk,← hnw,← hnb]
  simp [sumsK,slidesK,scaledK]
 have R:=zH X
 clear hr X hnw hnb
 unfold maxLen at mw mb
 have FR:=zH (Far.refl w)
 rw [hk]
 have SC:=zH (fun w=>rscaled_any 9 w)
 rw [show scaledK 9=false from rfl] at SC
 clear hk
 obtain ⟨kind,a,b,k,s,p,out,za,zb,wl,bl,qm,qs,qz,rm,rs,rz,lo,hi⟩:=d
 simp only at R ⊢
 obtain ⟨w1,hw_w1,BN,k_w1⟩:=nB w (nN 9 a b k s p out za zb W nw cw B nb cb qm qs qz rm rs rz lo hi) 87
 replace FR:=zH (FR.out.fut k_w1)
 clear k_w1
 have c0:=BN.out.cell 0
 have c2:=BN.out.cell 2
 have c3:=BN.out.cell 3
 have c4:=BN.out.cell 4
 have c5:=BN.out.cell 5
 have c6:=BN.out.cell 6
 have c7:=BN.out.cell 7
 have c8:=BN.out.cell 8
 have c9:=BN.out.cell 9
 have c10:=BN.out.cell 10
 have c11:=BN.out.cell 11
 have c12:=BN.out.cell 12
 have c13:=BN.out.cell 13
 have c14:=BN.out.cell 14
 have c15:=BN.out.cell 15
 have c16:=BN.out.cell 16
 have c17:=BN.out.cell 17
 have c18:=BN.out.cell 18
 go_enter Tryz.func77,Tryz.ntmps77
 go_wp2_with (go_at_call 78;refine (SC.out _).mono ?_;rintro e w' ⟨rfl,rfl⟩)
 all_goals clear c0 c2 c3 c4 c5 c6 c7 c8 c9 c10 c11 c12 c13 c14 c15 c16 c17 c18 SC
 all_goals go_ret
 all_goals exact ⟨ret_bool (by rw [← R.out];clear FR R;(try simp only [bne_iff_ne,bne_eq_false_iff_eq] at *);first|exact (decide_eq_true (by omega)).symm|exact (decide_eq_false (by omega)).symm|(rw [Bool.eq_iff_iff,bne_iff_ne,decide_eq_true_iff];omega)),FR.out.out⟩
end Go.Proofs.YtppcjcigekoipaaGreat
