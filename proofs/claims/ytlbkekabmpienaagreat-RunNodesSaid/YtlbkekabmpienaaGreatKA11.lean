/-
  What a node tells that its kind does not (layer 25): the document's More.
  What is wrong with a node (layer 25): kinds.Check, the document's Check.
-/
import Derived.Test.YtlbkekabmpienaaGreatChecked
import Derived.Test.YtlbkekabmpienaaGreatJ18
import Derived.Test.YtlbkekabmpienaaGreatKA04
import Derived.Test.YtlbkekabmpienaaGreatJ00
import Derived.Test.YtlbkekabmpienaaGreatJ40
import Derived.Deep.CutBlock
import Derived.Deep.DeepCutAuto
import Derived.Deep.CutRange
import Derived.Test.YtlbkekabmpienaaGreatJ35
import Derived.Test.YtlbkekabmpienaaGreatJ36
import Derived.Test.YtlbkekabmpienaaGreatJ30
import Derived.Test.YtlbkekabmpienaaGreatJ16
import Derived.Test.YtlbkekabmpienaaGreatJ08
import Derived.Test.YtlbkekabmpienaaGreatJ03
import Derived.Test.YtlbkekabmpienaaGreatJ05
import Derived.Test.YtlbkekabmpienaaGreatJ37
import Derived.Test.YtlbkekabmpienaaGreatJ38
import Derived.Test.YtlbkekabmpienaaGreatJ39
import Derived.Test.YtlbkekabmpienaaGreatJ01
import Derived.Test.YtlbkekabmpienaaGreatKA00
namespace Go.Proofs.YtlbkekabmpienaaGreat
set_option linter.unusedVariables false
set_option linter.unusedSimpArgs false
open Go.RowKit Go.ChangeShapes Go.WideShapes
set_option maxRecDepth 100000
set_option maxHeartbeats 4000000 in
theorem more_1 (d:Node) (W:Option Addr) (nw cw:Nat) (B:Option Addr) (nb cb:Nat) (w:World) (hk:d.kind=1) (hnw:nw=d.w.length) (hnb:nb=d.bias.length) (mw:nw≤maxLen) (mb:nb≤maxLen) :
  Calls Tryz.prog 65 #[.agg #[.int .i64 d.kind,.int .i64 d.a,.int .i64 d.b,.int .i64 d.k,.int .i64 d.s,.int .i64 d.p,.int .i64 d.out,.int .i8 d.za,.int .i8 d.zb,.slice W nw cw,.slice B nb cb,.int .i32 d.qm,.int .i64 d.qs,.int .i8 d.qz,.int .i32 d.rm,.int .i64 d.rs,.int .i8 d.rz,.int .i8 d.lo,.int .i8 d.hi]] w fun e w'=>e=.returned (.bool (decide (moreP d)))∧Below w.heap.size w w':=by
 obtain ⟨r,hr⟩:∃ r,decide (moreP d)=r:=⟨_,rfl⟩
 rw [hr]
 have X:decide ((d.b ≠ 0 ∨ d.zb ≠ 0 ∨ d.rm ≠ 0 ∨ d.rs ≠ 0) ∨ d.rz ≠ 0)=r:=by
  rw [← hr]
  refine decide_eq_decide.2 ?_
  unfold moreP
  rw [hk,← hnw,← hnb]
  simp [sumsK,slidesK,scaledK]
 have R:=zH X
 clear hr X hnw hnb
 unfold maxLen at mw mb
 have FR:=zH (Far.refl w)
 rw [hk]
 have SC:=zH (fun w=>rscaled_any 1 w)
 rw [show scaledK 1=true from rfl] at SC
 clear hk
 obtain ⟨kind,a,b,k,s,p,out,za,zb,wl,bl,qm,qs,qz,rm,rs,rz,lo,hi⟩:=d
 simp only at R ⊢
 obtain ⟨w1,hw_w1,BN,k_w1⟩:=nB w #[.int .i64 1,.int .i64 a,.int .i64 b,.int .i64 k,.int .i64 s,.int .i64 p,.int .i64 out,.int .i8 za,.int .i8 zb,.slice W nw cw,.slice B nb cb,.int .i32 qm,.int .i64 qs,.int .i8 qz,.int .i32 rm,.int .i64 rs,.int .i8 rz,.int .i8 lo,.int .i8 hi] 28
 replace FR:=zH (FR.out.fut k_w1)
 clear k_w1
 have c0:=BN.out.cell 0
 have c2:=BN.out.cell 2
 have c3:=BN.out.cell 3
 have c4:=BN.out.cell 4
 have c5:=BN.out.cell 5
 have c6:=BN.out.cell 6
 have c7:=BN.out.cell 7
 have c8:=BN.out.cell 8
 have c9:=BN.out.cell 9
 have c10:=BN.out.cell 10
 have c11:=BN.out.cell 11
 have c12:=BN.out.cell 12
 have c13:=BN.out.cell 13
 have c14:=BN.out.cell 14
 have c15:=BN.out.cell 15
 have c16:=BN.out.cell 16
 have c17:=BN.out.cell 17
 have c18:=BN.out.cell 18
 go_enter Tryz.func65,Tryz.ntmps65
 go_wp2_with (go_at_call 66;refine (SC.out _).mono ?_;rintro e w' ⟨rfl,rfl⟩)
 all_goals clear c0 c2 c3 c4 c5 c6 c7 c8 c9 c10 c11 c12 c13 c14 c15 c16 c17 c18 SC
 all_goals go_ret
 all_goals exact ⟨ret_bool (by rw [← R.out];clear FR R;(try simp only [bne_iff_ne,bne_eq_false_iff_eq] at *);first|exact (decide_eq_true (by omega)).symm|exact (decide_eq_false (by omega)).symm|(rw [Bool.eq_iff_iff,bne_iff_ne,decide_eq_true_iff];omega)),FR.out.out⟩
set_option maxHeartbeats 4000000 in
theorem more_2 (d:Node) (W:Option Addr) (nw cw:Nat) (B:Option Addr) (nb cb:Nat) (w:World) (hk:d.kind=2) (hnw:nw=d.w.length) (hnb:nb=d.bias.length) (mw:nw≤maxLen) (mb:nb≤maxLen) :
  Calls Tryz.prog 65 #[.agg #[.int .i64 d.kind,.int .i64 d.a,.int .i64 d.b,.int .i64 d.k,.int .i64 d.s,.int .i64 d.p,.int .i64 d.out,.int .i8 d.za,.int .i8 d.zb,.slice W nw cw,.slice B nb cb,.int .i32 d.qm,.int .i64 d.qs,.int .i8 d.qz,.int .i32 d.rm,.int .i64 d.rs,.int .i8 d.rz,.int .i8 d.lo,.int .i8 d.hi]] w fun e w'=>e=.returned (.bool (decide (moreP d)))∧Below w.heap.size w w':=by
 obtain ⟨r,hr⟩:∃ r,decide (moreP d)=r:=⟨_,rfl⟩
 rw [hr]
 have X:decide (d.out ≠ 0 ∨ (d.b ≠ 0 ∨ d.zb ≠ 0 ∨ d.rm ≠ 0 ∨ d.rs ≠ 0) ∨ d.rz ≠ 0)=r:=by
  rw [← hr]
  refine decide_eq_decide.2 ?_
  unfold moreP
  rw [hk,← hnw,← hnb]
  simp [sumsK,slidesK,scaledK]
 have R:=zH X
 clear hr X hnw hnb
 unfold maxLen at mw mb
 have FR:=zH (Far.refl w)
 rw [hk]
 have SC:=zH (fun w=>rscaled_any 2 w)
 rw [show scaledK 2=true from rfl] at SC
 clear hk
 obtain ⟨kind,a,b,k,s,p,out,za,zb,wl,bl,qm,qs,qz,rm,rs,rz,lo,hi⟩:=d
 simp only at R ⊢
 obtain ⟨w1,hw_w1,BN,k_w1⟩:=nB w #[.int .i64 2,.int .i64 a,.int .i64 b,.int .i64 k,.int .i64 s,.int .i64 p,.int .i64 out,.int .i8 za,.int .i8 zb,.slice W nw cw,.slice B nb cb,.int .i32 qm,.int .i64 qs,.int .i8 qz,.int .i32 rm,.int .i64 rs,.int .i8 rz,.int .i8 lo,.int .i8 hi] 28
 replace FR:=zH (FR.out.fut k_w1)
 clear k_w1
 have c0:=BN.out.cell 0
 have c2:=BN.out.cell 2
 have c3:=BN.out.cell 3
 have c4:=BN.out.cell 4
 have c5:=BN.out.cell 5
 have c6:=BN.out.cell 6
 have c7:=BN.out.cell 7
 have c8:=BN.out.cell 8
 have c9:=BN.out.cell 9
 have c10:=BN.out.cell 10
 have c11:=BN.out.cell 11
 have c12:=BN.out.cell 12
 have c13:=BN.out.cell 13
 have c14:=BN.out.cell 14
 have c15:=BN.out.cell 15
 have c16:=BN.out.cell 16
 have c17:=BN.out.cell 17
 have c18:=BN.out.cell 18
 go_enter Tryz.func65,Tryz.ntmps65
 go_wp2_with (go_at_call 66;refine (SC.out _).mono ?_;rintro e w' ⟨rfl,rfl⟩)
 all_goals clear c0 c2 c3 c4 c5 c6 c7 c8 c9 c10 c11 c12 c13 c14 c15 c16 c17 c18 SC
 all_goals go_ret
 all_goals exact ⟨ret_bool (by rw [← R.out];clear FR R;(try simp only [bne_iff_ne,bne_eq_false_iff_eq] at *);first|exact (decide_eq_true (by omega)).symm|exact (decide_eq_false (by omega)).symm|(rw [Bool.eq_iff_iff,bne_iff_ne,decide_eq_true_iff];omega)),FR.out.out⟩
set_option maxHeartbeats 4000000 in
theorem more_3 (d:Node) (W:Option Addr) (nw cw:Nat) (B:Option Addr) (nb cb:Nat) (w:World) (hk:d.kind=3) (hnw:nw=d.w.length) (hnb:nb=d.bias.length) (mw:nw≤maxLen) (mb:nb≤maxLen) :
  Calls Tryz.prog 65 #[.agg #[.int .i64 d.kind,.int .i64 d.a,.int .i64 d.b,.int .i64 d.k,.int .i64 d.s,.int .i64 d.p,.int .i64 d.out,.int .i8 d.za,.int .i8 d.zb,.slice W nw cw,.slice B nb cb,.int .i32 d.qm,.int .i64 d.qs,.int .i8 d.qz,.int .i32 d.rm,.int .i64 d.rs,.int .i8 d.rz,.int .i8 d.lo,.int .i8 d.hi]] w fun e w'=>e=.returned (.bool (decide (moreP d)))∧Below w.heap.size w w':=by
 obtain ⟨r,hr⟩:∃ r,decide (moreP d)=r:=⟨_,rfl⟩
 rw [hr]
 have X:decide ((d.k ≠ 0 ∨ d.s ≠ 0) ∨ d.p ≠ 0 ∨ (d.b ≠ 0 ∨ d.zb ≠ 0 ∨ d.rm ≠ 0 ∨ d.rs ≠ 0) ∨ d.rz ≠ 0)=r:=by
  rw [← hr]
  refine decide_eq_decide.2 ?_
  unfold moreP
  rw [hk,← hnw,← hnb]
  simp [sumsK,slidesK,scaledK]
 have R:=zH X
 clear hr X hnw hnb
 unfold maxLen at mw mb
 have FR:=zH (Far.refl w)
 rw [hk]
 have SC:=zH (fun w=>rscaled_any 3 w)
 rw [show scaledK 3=true from rfl] at SC
 clear hk
 obtain ⟨kind,a,b,k,s,p,out,za,zb,wl,bl,qm,qs,qz,rm,rs,rz,lo,hi⟩:=d
 simp only at R ⊢
 obtain ⟨w1,hw_w1,BN,k_w1⟩:=nB w #[.int .i64 3,.int .i64 a,.int .i64 b,.int .i64 k,.int .i64 s,.int .i64 p,.int .i64 out,.int .i8 za,.int .i8 zb,.slice W nw cw,.slice B nb cb,.int .i32 qm,.int .i64 qs,.int .i8 qz,.int .i32 rm,.int .i64 rs,.int .i8 rz,.int .i8 lo,.int .i8 hi] 28
 replace FR:=zH (FR.out.fut k_w1)
 clear k_w1
 have c0:=BN.out.cell 0
 have c2:=BN.out.cell 2
 have c3:=BN.out.cell 3
 have c4:=BN.out.cell 4
 have c5:=BN.out.cell 5
 have c6:=BN.out.cell 6
 have c7:=BN.out.cell 7
 have c8:=BN.out.cell 8
 have c9:=BN.out.cell 9
 have c10:=BN.out.cell 10
 have c11:=BN.out.cell 11
 have c12:=BN.out.cell 12
 have c13:=BN.out.cell 13
 have c14:=BN.out.cell 14
 have c15:=BN.out.cell 15
 have c16:=BN.out.cell 16
 have c17:=BN.out.cell 17
 have c18:=BN.out.cell 18
 go_enter Tryz.func65,Tryz.ntmps65
 go_wp2_with (go_at_call 66;refine (SC.out _).mono ?_;rintro e w' ⟨rfl,rfl⟩)
 all_goals clear c0 c2 c3 c4 c5 c6 c7 c8 c9 c10 c11 c12 c13 c14 c15 c16 c17 c18 SC
 all_goals go_ret
 all_goals exact ⟨ret_bool (by rw [← R.out];clear FR R;(try simp only [bne_iff_ne,bne_eq_false_iff_eq] at *);first|exact (decide_eq_true (by omega)).symm|exact (decide_eq_false (by omega)).symm|(rw [Bool.eq_iff_iff,bne_iff_ne,decide_eq_true_iff];omega)),FR.out.out⟩
set_option maxHeartbeats 4000000 in
theorem more_4 (d:Node) (W:Option Addr) (nw cw:Nat) (B:Option Addr) (nb cb:Nat) (w:World) (hk:d.kind=4) (hnw:nw=d.w.length) (hnb:nb=d.bias.length) (mw:nw≤maxLen) (mb:nb≤maxLen) :
  Calls Tryz.prog 65 #[.agg #[.int .i64 d.kind,.int .i64 d.a,.int .i64 d.b,.int .i64 d.k,.int .i64 d.s,.int .i64 d.p,.int .i64 d.out,.int .i8 d.za,.int .i8 d.zb,.slice W nw cw,.slice B nb cb,.int .i32 d.qm,.int .i64 d.qs,.int .i8 d.qz,.int .i32 d.rm,.int .i64 d.rs,.int .i8 d.rz,.int .i8 d.lo,.int .i8 d.hi]] w fun e w'=>e=.returned (.bool (decide (moreP d)))∧Below w.heap.size w w':=by
 obtain ⟨r,hr⟩:∃ r,decide (moreP d)=r:=⟨_,rfl⟩
 rw [hr]
 have X:decide ((0 < nw ∨ 0 < nb) ∨ d.out ≠ 0 ∨ (d.b ≠ 0 ∨ d.zb ≠ 0 ∨ d.rm ≠ 0 ∨ d.rs ≠ 0) ∨ d.rz ≠ 0 ∨ (d.qm ≠ 0 ∨ d.qs ≠ 0 ∨ d.qz ≠ 0 ∨ d.lo ≠ 0 ∨ d.hi ≠ 0) ∨ d.za ≠ 0)=r:=by
  rw [← hr]
  refine decide_eq_decide.2 ?_
  unfold moreP
  rw [hk,← hnw,← hnb]
  simp [sumsK,slidesK,scaledK]
 have R:=zH X
 clear hr X hnw hnb
 unfold maxLen at mw mb
 have FR:=zH (Far.refl w)
 rw [hk]
 have SC:=zH (fun w=>rscaled_any 4 w)
 rw [show scaledK 4=false from rfl] at SC
 clear hk
 obtain ⟨kind,a,b,k,s,p,out,za,zb,wl,bl,qm,qs,qz,rm,rs,rz,lo,hi⟩:=d
 simp only at R ⊢
 obtain ⟨w1,hw_w1,BN,k_w1⟩:=nB w #[.int .i64 4,.int .i64 a,.int .i64 b,.int .i64 k,.int .i64 s,.int .i64 p,.int .i64 out,.int .i8 za,.int .i8 zb,.slice W nw cw,.slice B nb cb,.int .i32 qm,.int .i64 qs,.int .i8 qz,.int .i32 rm,.int .i64 rs,.int .i8 rz,.int .i8 lo,.int .i8 hi] 28
 replace FR:=zH (FR.out.fut k_w1)
 clear k_w1
 have c0:=BN.out.cell 0
 have c2:=BN.out.cell 2
 have c3:=BN.out.cell 3
 have c4:=BN.out.cell 4
 have c5:=BN.out.cell 5
 have c6:=BN.out.cell 6
 have c7:=BN.out.cell 7
 have c8:=BN.out.cell 8
 have c9:=BN.out.cell 9
 have c10:=BN.out.cell 10
 have c11:=BN.out.cell 11
 have c12:=BN.out.cell 12
 have c13:=BN.out.cell 13
 have c14:=BN.out.cell 14
 have c15:=BN.out.cell 15
 have c16:=BN.out.cell 16
 have c17:=BN.out.cell 17
 have c18:=BN.out.cell 18
 go_enter Tryz.func65,Tryz.ntmps65
 go_wp2_with (go_at_call 66;refine (SC.out _).mono ?_;rintro e w' ⟨rfl,rfl⟩)
 all_goals clear c0 c2 c3 c4 c5 c6 c7 c8 c9 c10 c11 c12 c13 c14 c15 c16 c17 c18 SC
 all_goals go_ret
 all_goals exact ⟨ret_bool (by rw [← R.out];clear FR R;(try simp only [bne_iff_ne,bne_eq_false_iff_eq] at *);first|exact (decide_eq_true (by omega)).symm|exact (decide_eq_false (by omega)).symm|(rw [Bool.eq_iff_iff,bne_iff_ne,decide_eq_true_iff];omega)),FR.out.out⟩
set_option maxHeartbeats 4000000 in
theorem more_5 (d:Node) (W:Option Addr) (nw cw:Nat) (B:Option Addr) (nb cb:Nat) (w:World) (hk:d.kind=5) (hnw:nw=d.w.length) (hnb:nb=d.bias.length) (mw:nw≤maxLen) (mb:nb≤maxLen) :
  Calls Tryz.prog 65 #[.agg #[.int .i64 d.kind,.int .i64 d.a,.int .i64 d.b,.int .i64 d.k,.int .i64 d.s,.int .i64 d.p,.int .i64 d.out,.int .i8 d.za,.int .i8 d.zb,.slice W nw cw,.slice B nb cb,.int .i32 d.qm,.int .i64 d.qs,.int .i8 d.qz,.int .i32 d.rm,.int .i64 d.rs,.int .i8 d.rz,.int .i8 d.lo,.int .i8 d.hi]] w fun e w'=>e=.returned (.bool (decide (moreP d)))∧Below w.heap.size w w':=by
 obtain ⟨r,hr⟩:∃ r,decide (moreP d)=r:=⟨_,rfl⟩
 rw [hr]
 have X:decide ((0 < nw ∨ 0 < nb) ∨ d.out ≠ 0 ∨ (d.b ≠ 0 ∨ d.zb ≠ 0 ∨ d.rm ≠ 0 ∨ d.rs ≠ 0) ∨ d.rz ≠ 0 ∨ (d.qm ≠ 0 ∨ d.qs ≠ 0 ∨ d.qz ≠ 0 ∨ d.lo ≠ 0 ∨ d.hi ≠ 0) ∨ d.za ≠ 0)=r:=by
  rw [← hr]
  refine decide_eq_decide.2 ?_
  unfold moreP
  rw [hk,← hnw,← hnb]
  simp [sumsK,slidesK,scaledK]
 have R:=zH X
 clear hr X hnw hnb
 unfold maxLen at mw mb
 have FR:=zH (Far.refl w)
 rw [hk]
 have SC:=zH (fun w=>rscaled_any 5 w)
 rw [show scaledK 5=false from rfl] at SC
 clear hk
 obtain ⟨kind,a,b,k,s,p,out,za,zb,wl,bl,qm,qs,qz,rm,rs,rz,lo,hi⟩:=d
 simp only at R ⊢
 obtain ⟨w1,hw_w1,BN,k_w1⟩:=nB w #[.int .i64 5,.int .i64 a,.int .i64 b,.int .i64 k,.int .i64 s,.int .i64 p,.int .i64 out,.int .i8 za,.int .i8 zb,.slice W nw cw,.slice B nb cb,.int .i32 qm,.int .i64 qs,.int .i8 qz,.int .i32 rm,.int .i64 rs,.int .i8 rz,.int .i8 lo,.int .i8 hi] 28
 replace FR:=zH (FR.out.fut k_w1)
 clear k_w1
 have c0:=BN.out.cell 0
 have c2:=BN.out.cell 2
 have c3:=BN.out.cell 3
 have c4:=BN.out.cell 4
 have c5:=BN.out.cell 5
 have c6:=BN.out.cell 6
 have c7:=BN.out.cell 7
 have c8:=BN.out.cell 8
 have c9:=BN.out.cell 9
 have c10:=BN.out.cell 10
 have c11:=BN.out.cell 11
 have c12:=BN.out.cell 12
 have c13:=BN.out.cell 13
 have c14:=BN.out.cell 14
 have c15:=BN.out.cell 15
 have c16:=BN.out.cell 16
 have c17:=BN.out.cell 17
 have c18:=BN.out.cell 18
 go_enter Tryz.func65,Tryz.ntmps65
 go_wp2_with (go_at_call 66;refine (SC.out _).mono ?_;rintro e w' ⟨rfl,rfl⟩)
 all_goals clear c0 c2 c3 c4 c5 c6 c7 c8 c9 c10 c11 c12 c13 c14 c15 c16 c17 c18 SC
 all_goals go_ret
 all_goals exact ⟨ret_bool (by rw [← R.out];clear FR R;(try simp only [bne_iff_ne,bne_eq_false_iff_eq] at *);first|exact (decide_eq_true (by omega)).symm|exact (decide_eq_false (by omega)).symm|(rw [Bool.eq_iff_iff,bne_iff_ne,decide_eq_true_iff];omega)),FR.out.out⟩
set_option maxHeartbeats 4000000 in
theorem more_6 (d:Node) (W:Option Addr) (nw cw:Nat) (B:Option Addr) (nb cb:Nat) (w:World) (hk:d.kind=6) (hnw:nw=d.w.length) (hnb:nb=d.bias.length) (mw:nw≤maxLen) (mb:nb≤maxLen) :
  Calls Tryz.prog 65 #[.agg #[.int .i64 d.kind,.int .i64 d.a,.int .i64 d.b,.int .i64 d.k,.int .i64 d.s,.int .i64 d.p,.int .i64 d.out,.int .i8 d.za,.int .i8 d.zb,.slice W nw cw,.slice B nb cb,.int .i32 d.qm,.int .i64 d.qs,.int .i8 d.qz,.int .i32 d.rm,.int .i64 d.rs,.int .i8 d.rz,.int .i8 d.lo,.int .i8 d.hi]] w fun e w'=>e=.returned (.bool (decide (moreP d)))∧Below w.heap.size w w':=by
 obtain ⟨r,hr⟩:∃ r,decide (moreP d)=r:=⟨_,rfl⟩
 rw [hr]
 have X:decide ((0 < nw ∨ 0 < nb) ∨ d.out ≠ 0 ∨ (d.k ≠ 0 ∨ d.s ≠ 0) ∨ d.p ≠ 0 ∨ d.rz ≠ 0)=r:=by
  rw [← hr]
  refine decide_eq_decide.2 ?_
  unfold moreP
  rw [hk,← hnw,← hnb]
  simp [sumsK,slidesK,scaledK]
 have R:=zH X
 clear hr X hnw hnb
 unfold maxLen at mw mb
 have FR:=zH (Far.refl w)
 rw [hk]
 have SC:=zH (fun w=>rscaled_any 6 w)
 rw [show scaledK 6=true from rfl] at SC
 clear hk
 obtain ⟨kind,a,b,k,s,p,out,za,zb,wl,bl,qm,qs,qz,rm,rs,rz,lo,hi⟩:=d
 simp only at R ⊢
 obtain ⟨w1,hw_w1,BN,k_w1⟩:=nB w #[.int .i64 6,.int .i64 a,.int .i64 b,.int .i64 k,.int .i64 s,.int .i64 p,.int .i64 out,.int .i8 za,.int .i8 zb,.slice W nw cw,.slice B nb cb,.int .i32 qm,.int .i64 qs,.int .i8 qz,.int .i32 rm,.int .i64 rs,.int .i8 rz,.int .i8 lo,.int .i8 hi] 28
 replace FR:=zH (FR.out.fut k_w1)
 clear k_w1
 have c0:=BN.out.cell 0
 have c2:=BN.out.cell 2
 have c3:=BN.out.cell 3
 have c4:=BN.out.cell 4
 have c5:=BN.out.cell 5
 have c6:=BN.out.cell 6
 have c7:=BN.out.cell 7
 have c8:=BN.out.cell 8
 have c9:=BN.out.cell 9
 have c10:=BN.out.cell 10
 have c11:=BN.out.cell 11
 have c12:=BN.out.cell 12
 have c13:=BN.out.cell 13
 have c14:=BN.out.cell 14
 have c15:=BN.out.cell 15
 have c16:=BN.out.cell 16
 have c17:=BN.out.cell 17
 have c18:=BN.out.cell 18
 go_enter Tryz.func65,Tryz.ntmps65
 go_wp2_with (go_at_call 66;refine (SC.out _).mono ?_;rintro e w' ⟨rfl,rfl⟩)
 all_goals clear c0 c2 c3 c4 c5 c6 c7 c8 c9 c10 c11 c12 c13 c14 c15 c16 c17 c18 SC
 all_goals go_ret
 all_goals exact ⟨ret_bool (by rw [← R.out];clear FR R;(try simp only [bne_iff_ne,bne_eq_false_iff_eq] at *);first|exact (decide_eq_true (by omega)).symm|exact (decide_eq_false (by omega)).symm|(rw [Bool.eq_iff_iff,bne_iff_ne,decide_eq_true_iff];omega)),FR.out.out⟩
set_option maxHeartbeats 4000000 in
theorem more_7 (d:Node) (W:Option Addr) (nw cw:Nat) (B:Option Addr) (nb cb:Nat) (w:World) (hk:d.kind=7) (hnw:nw=d.w.length) (hnb:nb=d.bias.length) (mw:nw≤maxLen) (mb:nb≤maxLen) :
  Calls Tryz.prog 65 #[.agg #[.int .i64 d.kind,.int .i64 d.a,.int .i64 d.b,.int .i64 d.k,.int .i64 d.s,.int .i64 d.p,.int .i64 d.out,.int .i8 d.za,.int .i8 d.zb,.slice W nw cw,.slice B nb cb,.int .i32 d.qm,.int .i64 d.qs,.int .i8 d.qz,.int .i32 d.rm,.int .i64 d.rs,.int .i8 d.rz,.int .i8 d.lo,.int .i8 d.hi]] w fun e w'=>e=.returned (.bool (decide (moreP d)))∧Below w.heap.size w w':=by
 obtain ⟨r,hr⟩:∃ r,decide (moreP d)=r:=⟨_,rfl⟩
 rw [hr]
 have X:decide ((0 < nw ∨ 0 < nb) ∨ d.out ≠ 0 ∨ (d.k ≠ 0 ∨ d.s ≠ 0) ∨ d.p ≠ 0 ∨ (d.b ≠ 0 ∨ d.zb ≠ 0 ∨ d.rm ≠ 0 ∨ d.rs ≠ 0) ∨ d.rz ≠ 0)=r:=by
  rw [← hr]
  refine decide_eq_decide.2 ?_
  unfold moreP
  rw [hk,← hnw,← hnb]
  simp [sumsK,slidesK,scaledK]
 have R:=zH X
 clear hr X hnw hnb
 unfold maxLen at mw mb
 have FR:=zH (Far.refl w)
 rw [hk]
 have SC:=zH (fun w=>rscaled_any 7 w)
 rw [show scaledK 7=true from rfl] at SC
 clear hk
 obtain ⟨kind,a,b,k,s,p,out,za,zb,wl,bl,qm,qs,qz,rm,rs,rz,lo,hi⟩:=d
 simp only at R ⊢
 obtain ⟨w1,hw_w1,BN,k_w1⟩:=nB w #[.int .i64 7,.int .i64 a,.int .i64 b,.int .i64 k,.int .i64 s,.int .i64 p,.int .i64 out,.int .i8 za,.int .i8 zb,.slice W nw cw,.slice B nb cb,.int .i32 qm,.int .i64 qs,.int .i8 qz,.int .i32 rm,.int .i64 rs,.int .i8 rz,.int .i8 lo,.int .i8 hi] 28
 replace FR:=zH (FR.out.fut k_w1)
 clear k_w1
 have c0:=BN.out.cell 0
 have c2:=BN.out.cell 2
 have c3:=BN.out.cell 3
 have c4:=BN.out.cell 4
 have c5:=BN.out.cell 5
 have c6:=BN.out.cell 6
 have c7:=BN.out.cell 7
 have c8:=BN.out.cell 8
 have c9:=BN.out.cell 9
 have c10:=BN.out.cell 10
 have c11:=BN.out.cell 11
 have c12:=BN.out.cell 12
 have c13:=BN.out.cell 13
 have c14:=BN.out.cell 14
 have c15:=BN.out.cell 15
 have c16:=BN.out.cell 16
 have c17:=BN.out.cell 17
 have c18:=BN.out.cell 18
 go_enter Tryz.func65,Tryz.ntmps65
 go_wp2_with (go_at_call 66;refine (SC.out _).mono ?_;rintro e w' ⟨rfl,rfl⟩)
 all_goals clear c0 c2 c3 c4 c5 c6 c7 c8 c9 c10 c11 c12 c13 c14 c15 c16 c17 c18 SC
 all_goals go_ret
 all_goals exact ⟨ret_bool (by rw [← R.out];clear FR R;(try simp only [bne_iff_ne,bne_eq_false_iff_eq] at *);first|exact (decide_eq_true (by omega)).symm|exact (decide_eq_false (by omega)).symm|(rw [Bool.eq_iff_iff,bne_iff_ne,decide_eq_true_iff];omega)),FR.out.out⟩
set_option maxHeartbeats 4000000 in
theorem more_8 (d:Node) (W:Option Addr) (nw cw:Nat) (B:Option Addr) (nb cb:Nat) (w:World) (hk:d.kind=8) (hnw:nw=d.w.length) (hnb:nb=d.bias.length) (mw:nw≤maxLen) (mb:nb≤maxLen) :
  Calls Tryz.prog 65 #[.agg #[.int .i64 d.kind,.int .i64 d.a,.int .i64 d.b,.int .i64 d.k,.int .i64 d.s,.int .i64 d.p,.int .i64 d.out,.int .i8 d.za,.int .i8 d.zb,.slice W nw cw,.slice B nb cb,.int .i32 d.qm,.int .i64 d.qs,.int .i8 d.qz,.int .i32 d.rm,.int .i64 d.rs,.int .i8 d.rz,.int .i8 d.lo,.int .i8 d.hi]] w fun e w'=>e=.returned (.bool (decide (moreP d)))∧Below w.heap.size w w':=by
 obtain ⟨r,hr⟩:∃ r,decide (moreP d)=r:=⟨_,rfl⟩
 rw [hr]
 have X:decide ((0 < nw ∨ 0 < nb) ∨ d.out ≠ 0 ∨ (d.k ≠ 0 ∨ d.s ≠ 0) ∨ (d.b ≠ 0 ∨ d.zb ≠ 0 ∨ d.rm ≠ 0 ∨ d.rs ≠ 0) ∨ d.rz ≠ 0 ∨ (d.qm ≠ 0 ∨ d.qs ≠ 0 ∨ d.qz ≠ 0 ∨ d.lo ≠ 0 ∨ d.hi ≠ 0))=r:=by
  rw [← hr]
  refine decide_eq_decide.2 ?_
  unfold moreP
  rw [hk,← hnw,← hnb]
  simp [sumsK,slidesK,scaledK]
 have R:=zH X
 clear hr X hnw hnb
 unfold maxLen at mw mb
 have FR:=zH (Far.refl w)
 rw [hk]
 have SC:=zH (fun w=>rscaled_any 8 w)
 rw [show scaledK 8=false from rfl] at SC
 clear hk
 obtain ⟨kind,a,b,k,s,p,out,za,zb,wl,bl,qm,qs,qz,rm,rs,rz,lo,hi⟩:=d
 simp only at R ⊢
 obtain ⟨w1,hw_w1,BN,k_w1⟩:=nB w #[.int .i64 8,.int .i64 a,.int .i64 b,.int .i64 k,.int .i64 s,.int .i64 p,.int .i64 out,.int .i8 za,.int .i8 zb,.slice W nw cw,.slice B nb cb,.int .i32 qm,.int .i64 qs,.int .i8 qz,.int .i32 rm,.int .i64 rs,.int .i8 rz,.int .i8 lo,.int .i8 hi] 28
 replace FR:=zH (FR.out.fut k_w1)
 clear k_w1
 have c0:=BN.out.cell 0
 have c2:=BN.out.cell 2
 have c3:=BN.out.cell 3
 have c4:=BN.out.cell 4
 have c5:=BN.out.cell 5
 have c6:=BN.out.cell 6
 have c7:=BN.out.cell 7
 have c8:=BN.out.cell 8
 have c9:=BN.out.cell 9
 have c10:=BN.out.cell 10
 have c11:=BN.out.cell 11
 have c12:=BN.out.cell 12
 have c13:=BN.out.cell 13
 have c14:=BN.out.cell 14
 have c15:=BN.out.cell 15
 have c16:=BN.out.cell 16
 have c17:=BN.out.cell 17
 have c18:=BN.out.cell 18
 go_enter Tryz.func65,Tryz.ntmps65
 go_wp2_with (go_at_call 66;refine (SC.out _).mono ?_;rintro e w' ⟨rfl,rfl⟩)
 all_goals clear c0 c2 c3 c4 c5 c6 c7 c8 c9 c10 c11 c12 c13 c14 c15 c16 c17 c18 SC
 all_goals go_ret
 all_goals exact ⟨ret_bool (by rw [← R.out];clear FR R;(try simp only [bne_iff_ne,bne_eq_false_iff_eq] at *);first|exact (decide_eq_true (by omega)).symm|exact (decide_eq_false (by omega)).symm|(rw [Bool.eq_iff_iff,bne_iff_ne,decide_eq_true_iff];omega)),FR.out.out⟩
set_option maxHeartbeats 4000000 in
theorem more_9 (d:Node) (W:Option Addr) (nw cw:Nat) (B:Option Addr) (nb cb:Nat) (w:World) (hk:d.kind=9) (hnw:nw=d.w.length) (hnb:nb=d.bias.length) (mw:nw≤maxLen) (mb:nb≤maxLen) :
  Calls Tryz.prog 65 #[.agg #[.int .i64 d.kind,.int .i64 d.a,.int .i64 d.b,.int .i64 d.k,.int .i64 d.s,.int .i64 d.p,.int .i64 d.out,.int .i8 d.za,.int .i8 d.zb,.slice W nw cw,.slice B nb cb,.int .i32 d.qm,.int .i64 d.qs,.int .i8 d.qz,.int .i32 d.rm,.int .i64 d.rs,.int .i8 d.rz,.int .i8 d.lo,.int .i8 d.hi]] w fun e w'=>e=.returned (.bool (decide (moreP d)))∧Below w.heap.size w w':=by
 obtain ⟨r,hr⟩:∃ r,decide (moreP d)=r:=⟨_,rfl⟩
 rw [hr]
 have X:decide ((0 < nw ∨ 0 < nb) ∨ d.out ≠ 0 ∨ (d.k ≠ 0 ∨ d.s ≠ 0) ∨ d.p ≠ 0 ∨ (d.b ≠ 0 ∨ d.zb ≠ 0 ∨ d.rm ≠ 0 ∨ d.rs ≠ 0) ∨ d.rz ≠ 0 ∨ (d.qm ≠ 0 ∨ d.qs ≠ 0 ∨ d.qz ≠ 0 ∨ d.lo ≠ 0 ∨ d.hi ≠ 0) ∨ d.za ≠ 0)=r:=by
  rw [← hr]
  refine decide_eq_decide.2 ?_
  unfold moreP
  rw [hk,← hnw,← hnb]
  simp [sumsK,slidesK,scaledK]
 have R:=zH X
 clear hr X hnw hnb
 unfold maxLen at mw mb
 have FR:=zH (Far.refl w)
 rw [hk]
 have SC:=zH (fun w=>rscaled_any 9 w)
 rw [show scaledK 9=false from rfl] at SC
 clear hk
 obtain ⟨kind,a,b,k,s,p,out,za,zb,wl,bl,qm,qs,qz,rm,rs,rz,lo,hi⟩:=d
 simp only at R ⊢
 obtain ⟨w1,hw_w1,BN,k_w1⟩:=nB w #[.int .i64 9,.int .i64 a,.int .i64 b,.int .i64 k,.int .i64 s,.int .i64 p,.int .i64 out,.int .i8 za,.int .i8 zb,.slice W nw cw,.slice B nb cb,.int .i32 qm,.int .i64 qs,.int .i8 qz,.int .i32 rm,.int .i64 rs,.int .i8 rz,.int .i8 lo,.int .i8 hi] 28
 replace FR:=zH (FR.out.fut k_w1)
 clear k_w1
 have c0:=BN.out.cell 0
 have c2:=BN.out.cell 2
 have c3:=BN.out.cell 3
 have c4:=BN.out.cell 4
 have c5:=BN.out.cell 5
 have c6:=BN.out.cell 6
 have c7:=BN.out.cell 7
 have c8:=BN.out.cell 8
 have c9:=BN.out.cell 9
 have c10:=BN.out.cell 10
 have c11:=BN.out.cell 11
 have c12:=BN.out.cell 12
 have c13:=BN.out.cell 13
 have c14:=BN.out.cell 14
 have c15:=BN.out.cell 15
 have c16:=BN.out.cell 16
 have c17:=BN.out.cell 17
 have c18:=BN.out.cell 18
 go_enter Tryz.func65,Tryz.ntmps65
 go_wp2_with (go_at_call 66;refine (SC.out _).mono ?_;rintro e w' ⟨rfl,rfl⟩)
 all_goals clear c0 c2 c3 c4 c5 c6 c7 c8 c9 c10 c11 c12 c13 c14 c15 c16 c17 c18 SC
 all_goals go_ret
 all_goals exact ⟨ret_bool (by rw [← R.out];clear FR R;(try simp only [bne_iff_ne,bne_eq_false_iff_eq] at *);first|exact (decide_eq_true (by omega)).symm|exact (decide_eq_false (by omega)).symm|(rw [Bool.eq_iff_iff,bne_iff_ne,decide_eq_true_iff];omega)),FR.out.out⟩
end Go.Proofs.YtlbkekabmpienaaGreat
namespace Go.Proofs.YtlbkekabmpienaaGreat
set_option linter.unusedVariables false
set_option linter.unusedSimpArgs false
open Go.RowKit Go.ChangeShapes Go.WideShapes
set_option maxRecDepth 100000
theorem more_any (d:Node) (W:Option Addr) (nw cw:Nat) (B:Option Addr) (nb cb:Nat) (w:World) (hk:kindOk d.kind) (hnw:nw=d.w.length) (hnb:nb=d.bias.length) (mw:nw≤maxLen) (mb:nb≤maxLen) :
  Calls Tryz.prog 65 #[.agg #[.int .i64 d.kind,.int .i64 d.a,.int .i64 d.b,.int .i64 d.k,.int .i64 d.s,.int .i64 d.p,.int .i64 d.out,.int .i8 d.za,.int .i8 d.zb,.slice W nw cw,.slice B nb cb,.int .i32 d.qm,.int .i64 d.qs,.int .i8 d.qz,.int .i32 d.rm,.int .i64 d.rs,.int .i8 d.rz,.int .i8 d.lo,.int .i8 d.hi]] w fun e w'=>e=.returned (.bool (decide (moreP d)))∧Below w.heap.size w w':=by
 unfold kindOk at hk
 have hc:=kind_cases (k:=d.kind) ⟨by omega,hk.2⟩
 rcases hc with h|h|h|h|h|h|h|h|h|h
 ·omega
 ·exact more_1 d W nw cw B nb cb w h hnw hnb mw mb
 ·exact more_2 d W nw cw B nb cb w h hnw hnb mw mb
 ·exact more_3 d W nw cw B nb cb w h hnw hnb mw mb
 ·exact more_4 d W nw cw B nb cb w h hnw hnb mw mb
 ·exact more_5 d W nw cw B nb cb w h hnw hnb mw mb
 ·exact more_6 d W nw cw B nb cb w h hnw hnb mw mb
 ·exact more_7 d W nw cw B nb cb w h hnw hnb mw mb
 ·exact more_8 d W nw cw B nb cb w h hnw hnb mw mb
 ·exact more_9 d W nw cw B nb cb w h hnw hnb mw mb
set_option maxHeartbeats 8000000 in
theorem rcheck_any (d:Node) (W:Option Addr) (nw cw:Nat) (B:Option Addr) (nb cb:Nat) (w:World) (hw:Sl (tInt .i8) w (blo w.heap.size) W nw cw d.w) (hb:Sl (tInt .i32) w (blo w.heap.size) B nb cb d.bias) (mw:nw≤1048576) (mb:nb≤1048576) :
  Calls Tryz.prog 25 #[.agg #[.int .i64 d.kind,.int .i64 d.a,.int .i64 d.b,.int .i64 d.k,.int .i64 d.s,.int .i64 d.p,.int .i64 d.out,.int .i8 d.za,.int .i8 d.zb,.slice W nw cw,.slice B nb cb,.int .i32 d.qm,.int .i64 d.qs,.int .i8 d.qz,.int .i32 d.rm,.int .i64 d.rs,.int .i8 d.rz,.int .i8 d.lo,.int .i8 d.hi]] w fun e w'=>e=.returned (.int .i64 (checkV d))∧Below w.heap.size w w':=by
 obtain ⟨r,hr⟩:∃ r,checkV d=r:=⟨_,rfl⟩
 rw [hr]
 unfold checkV at hr
 have V:=zH hr.symm
 clear hr
 have HW:=zH hw
 have HB:=zH hb
 clear hw hb
 have NM:=zH (fun w=>rname_any d.kind w)
 have SC:=zH (fun w=>rscaled_any d.kind w)
 have FQ:=zH (fun w=>rfixRight_any d.qm d.qs d.qz w)
 have FQR:=zH (fun w=>rfixRight_any d.rm d.rs d.rz w)
 have NT:=zH (nameOf_empty d.kind)
 have FR:=zH (Far.refl w)
 obtain ⟨w1,hw_w1,BN,k_w1⟩:=nB w #[.int .i64 d.kind,.int .i64 d.a,.int .i64 d.b,.int .i64 d.k,.int .i64 d.s,.int .i64 d.p,.int .i64 d.out,.int .i8 d.za,.int .i8 d.zb,.slice W nw cw,.slice B nb cb,.int .i32 d.qm,.int .i64 d.qs,.int .i8 d.qz,.int .i32 d.rm,.int .i64 d.rs,.int .i8 d.rz,.int .i8 d.lo,.int .i8 d.hi] 28
 replace FR:=zH (FR.out.fut k_w1)
 replace HW:=zH (HW.out.fut k_w1)
 replace HB:=zH (HB.out.fut k_w1)
 clear k_w1
 have c0:=BN.out.cell 0
 obtain ⟨nm,hnm⟩:∃ x,nameOf d.kind=x:=⟨_,rfl⟩
 rw [hnm] at NM NT
 clear hnm
 have MO:=zH (fun w' (hk:kindOk d.kind)=>more_any d W nw cw B nb cb w' hk HW.out.n_eq.symm HB.out.n_eq.symm (by unfold maxLen;omega) (by unfold maxLen;omega))
 by_cases hk:kindOk d.kind
 rotate_left
 ·have tn:nm.toList.isEmpty=true:=by
   have:=NT.out
   rw [decide_eq_false hk] at this
   exact this
  have R:=zH (show r=6 by rw [V.out,if_pos hk])
  clear hk V NT
  go_enter Tryz.func25,Tryz.ntmps25
  go_wp2_with fail
  refine (NM.out _).mono ?_
  rintro e w2 ⟨rfl,hb⟩
  replace FR:=zH (FR.out.fut hb)
  clear hb
  clear c0 hw_w1
  go_wp2_with fail
  go_ret
  exact ⟨by rw [R.out];rfl,FR.out.out⟩
 have tn:nm.toList.isEmpty=false:=by
  have:=NT.out
  rw [decide_eq_true hk] at this
  exact this
 clear NT
 by_cases hm:moreP d
 ·have R:=zH (show r=2 by rw [V.out,if_neg (fun h=>h hk),if_pos hm])
  have dm:decide (moreP d)=true:=decide_eq_true hm
  replace MO:=zH (fun w'=>MO.out w' hk)
  rw [dm] at MO
  clear V hm dm
  go_enter Tryz.func25,Tryz.ntmps25
  go_wp2_with fail
  refine (NM.out _).mono ?_
  rintro e w2 ⟨rfl,hb⟩
  have K2:=zH hb
  replace FR:=zH (FR.out.fut hb)
  replace HW:=zH (HW.out.fut hb)
  replace HB:=zH (HB.out.fut hb)
  replace BN:=zH (BN.out.fut hb)
  clear hb
  clear c0 hw_w1
  go_wp2_with (refine wpList_load_row rfl 28 (.tmp 1) rfl w.heap.size rfl _ _ (0,0) _ BN.out.heap Tryz.underlying28 rfl (by kernel_rfl) ?_)
  refine (MO.out _).mono ?_
  rintro e w4 ⟨rfl,hb⟩
  replace FR:=zH (FR.out.fut hb)
  replace HW:=zH (HW.out.fut hb)
  replace HB:=zH (HB.out.fut hb)
  replace BN:=zH (BN.out.fut hb)
  clear hb
  go_wp2_with fail
  go_ret
  exact ⟨by rw [R.out];rfl,FR.out.out⟩
 have dm:decide (moreP d)=false:=decide_eq_false hm
 replace MO:=zH (fun w'=>MO.out w' hk)
 rw [dm] at MO
 have V2:=zH (show r=(if (scaledK d.kind=true∧quantOk d.qm d.qs=false) ∨ (d.kind=6∧quantOk d.rm d.rs=false) then 7 else if scaledK d.kind=true∧d.hi < d.lo then 2 else 0) by rw [V.out,if_neg (fun h=>h hk),if_neg hm])
 clear V hm dm
 go_enter Tryz.func25,Tryz.ntmps25
 go_wp2_with fail
 refine (NM.out _).mono ?_
 rintro e w2 ⟨rfl,hb⟩
 have K2:=zH hb
 replace FR:=zH (FR.out.fut hb)
 replace HW:=zH (HW.out.fut hb)
 replace HB:=zH (HB.out.fut hb)
 replace BN:=zH (BN.out.fut hb)
 clear hb
 clear c0 hw_w1
 go_wp2_with (refine wpList_load_row rfl 28 (.tmp 1) rfl w.heap.size rfl _ _ (0,0) _ BN.out.heap Tryz.underlying28 rfl (by kernel_rfl) ?_)
 refine (MO.out _).mono ?_
 rintro e w4 ⟨rfl,hb⟩
 replace FR:=zH (FR.out.fut hb)
 replace HW:=zH (HW.out.fut hb)
 replace HB:=zH (HB.out.fut hb)
 replace BN:=zH (BN.out.fut hb)
 clear hb
 clear K2 HW HB MO NM
 obtain ⟨sc,hsc⟩:∃ x,scaledK d.kind=x:=⟨_,rfl⟩
 obtain ⟨q,hq⟩:∃ x,quantOk d.qm d.qs=x:=⟨_,rfl⟩
 obtain ⟨qr,hqr⟩:∃ x,quantOk d.rm d.rs=x:=⟨_,rfl⟩
 have KW:=zH (kinds_where (k:=d.kind))
 rw [hsc] at SC V2 KW
 rw [hq] at FQ V2
 rw [hqr] at FQR V2
 clear hsc hq hqr hk tn
 have x0:=BN.out.cell 0
 have x11:=BN.out.cell 11
 have x12:=BN.out.cell 12
 have x13:=BN.out.cell 13
 have x14:=BN.out.cell 14
 have x15:=BN.out.cell 15
 have x16:=BN.out.cell 16
 have x17:=BN.out.cell 17
 have x18:=BN.out.cell 18
 cases sc
 case false =>
  have k6:=KW.out rfl
  have t6:(d.kind == 6)=false:=by simpa using k6
  have K6:=zH k6
  clear k6
  go_wp2_with (go_at_call 66;refine (SC.out _).mono ?_;rintro e w' ⟨rfl,rfl⟩)
  go_ret
  exact ⟨by rw [V2.out];simp [K6.out],FR.out.out⟩
 case true =>
  clear KW
  cases q
  case false =>
   go_wp2_with (go_at_call 66;refine (SC.out _).mono ?_;rintro e w' ⟨rfl,rfl⟩)
   refine (FQ.out _).mono ?_
   rintro e w5 ⟨rfl,hb⟩
   clear x0 x11 x12 x13 x14 x15 x16 x17 x18
   replace FR:=zH (FR.out.fut hb)
   clear hb
   go_wp2_with fail
   go_ret
   exact ⟨by rw [V2.out];simp,FR.out.out⟩
  case true =>
   go_wp2_with (go_at_call 66;refine (SC.out _).mono ?_;rintro e w' ⟨rfl,rfl⟩)
   refine (FQ.out _).mono ?_
   rintro e w5 ⟨rfl,hb⟩
   clear x0 x11 x12 x13 x14 x15 x16 x17 x18
   replace FR:=zH (FR.out.fut hb)
   replace BN:=zH (BN.out.fut hb)
   clear hb
   have x0:=BN.out.cell 0
   have x11:=BN.out.cell 11
   have x12:=BN.out.cell 12
   have x13:=BN.out.cell 13
   have x14:=BN.out.cell 14
   have x15:=BN.out.cell 15
   have x16:=BN.out.cell 16
   have x17:=BN.out.cell 17
   have x18:=BN.out.cell 18
   by_cases k6:d.kind=6
   ·have t6:(d.kind == 6)=true:=by simpa using k6
    have K6:=zH k6
    clear k6
    cases qr
    case false =>
     go_wp2_with fail
     refine (FQR.out _).mono ?_
     rintro e w6 ⟨rfl,hb⟩
     clear x0 x11 x12 x13 x14 x15 x16 x17 x18
     replace FR:=zH (FR.out.fut hb)
     clear hb
     go_wp2_with fail
     go_ret
     exact ⟨by rw [V2.out];simp [K6.out],FR.out.out⟩
    case true =>
     go_wp2_with fail
     refine (FQR.out _).mono ?_
     rintro e w6 ⟨rfl,hb⟩
     clear x0 x11 x12 x13 x14 x15 x16 x17 x18
     replace FR:=zH (FR.out.fut hb)
     replace BN:=zH (BN.out.fut hb)
     clear hb
     have x0:=BN.out.cell 0
     have x11:=BN.out.cell 11
     have x12:=BN.out.cell 12
     have x13:=BN.out.cell 13
     have x14:=BN.out.cell 14
     have x15:=BN.out.cell 15
     have x16:=BN.out.cell 16
     have x17:=BN.out.cell 17
     have x18:=BN.out.cell 18
     by_cases hl:d.hi < d.lo
     ·have tl:decide (d.hi < d.lo)=true:=decide_eq_true hl
      have HL:=zH hl
      clear hl
      go_wp2_with (go_at_call 66;refine (SC.out _).mono ?_;rintro e w' ⟨rfl,rfl⟩)
      go_ret
      exact ⟨by rw [V2.out];simp [HL.out,K6.out],FR.out.out⟩
     ·have tl:decide (d.hi < d.lo)=false:=decide_eq_false hl
      have HL:=zH hl
      clear hl
      go_wp2_with (go_at_call 66;refine (SC.out _).mono ?_;rintro e w' ⟨rfl,rfl⟩)
      go_ret
      exact ⟨by rw [V2.out];simp [HL.out,K6.out],FR.out.out⟩
   ·have t6:(d.kind == 6)=false:=by simpa using k6
    have K6:=zH k6
    clear k6
    by_cases hl:d.hi < d.lo
    ·have tl:decide (d.hi < d.lo)=true:=decide_eq_true hl
     have HL:=zH hl
     clear hl
     go_wp2_with (go_at_call 66;refine (SC.out _).mono ?_;rintro e w' ⟨rfl,rfl⟩)
     go_ret
     exact ⟨by rw [V2.out];simp [HL.out,K6.out],FR.out.out⟩
    ·have tl:decide (d.hi < d.lo)=false:=decide_eq_false hl
     have HL:=zH hl
     clear hl
     go_wp2_with (go_at_call 66;refine (SC.out _).mono ?_;rintro e w' ⟨rfl,rfl⟩)
     go_ret
     exact ⟨by rw [V2.out];simp [HL.out,K6.out],FR.out.out⟩
end Go.Proofs.YtlbkekabmpienaaGreat
