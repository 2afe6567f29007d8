/- What a node tells that its kind does not (layer 25): the document's More. -/
import Derived.Test.YtbecbfpoahhpnaaGreatJ11
set_option linter.unusedVariables false
set_option linter.unusedSimpArgs false
set_option maxRecDepth 100000
set_option maxHeartbeats 16000000
namespace Go.Proofs.YtbecbfpoahhpnaaGreat
open Go.RowKit Go.ChangeShapes Go.WideShapes Tryz
def cV (k:Int):Bool:=decide (k=1 ∨ k=2 ∨ k=4 ∨ k=5)
def bI (d:af):Prop :=
 (bk d.kind=false∧(0 < d.w.length ∨ 0 < d.bias.length)) ∨ (d.kind ≠ 1∧d.kind ≠ 3∧d.out ≠ 0) ∨ (cV d.kind=false∧(d.k ≠ 0 ∨ d.s ≠ 0)) ∨ (cV d.kind=false∧d.kind ≠ 8∧d.p ≠ 0)
  ∨ (d.kind ≠ 6∧(d.b ≠ 0 ∨ d.zb ≠ 0 ∨ d.rm ≠ 0 ∨ d.rs ≠ 0)) ∨ d.rz ≠ 0 ∨ (aG d.kind=false∧(d.qm ≠ 0 ∨ d.qs ≠ 0 ∨ d.qz ≠ 0 ∨ d.lo ≠ 0 ∨ d.hi ≠ 0)) ∨ (aG d.kind=false∧d.kind ≠ 8∧d.za ≠ 0)
instance (d:af):Decidable (bI d):=inferInstanceAs (Decidable (_ ∨ _))
theorem DW (d:af) (W:QA) (nw C:Nat) (B:QA) (nb cb:Nat) (w:World) (x:d.kind=1) (i:nw=d.w.length) (t:nb=d.bias.length) (N:nw≤maxLen) (M:nb≤maxLen) :
  Calls prog 96 #[.agg (nN d.kind d.a d.b d.k d.s d.p d.out d.za d.zb W nw C B nb cb d.qm d.qs d.qz d.rm d.rs d.rz d.lo d.hi)] w fun e w'=>e=.returned (.bool (decide (bI d)))∧Below w w w':=by
 obtain ⟨r,z⟩:∃ r,decide (bI d)=r:=⟨_,rfl⟩;rw [z];have X:decide ((d.b ≠ 0 ∨ d.zb ≠ 0 ∨ d.rm ≠ 0 ∨ d.rs ≠ 0) ∨ d.rz ≠ 0)=r:=by
  rw [← z];refine decide_eq_decide.2 ?_;unfold bI;rw [x,← i,← t];simp [bk,cV,aG]
 have R:=zH X;clear z X i t;unfold maxLen at N M;have n:=zW w;rw [x];have h:=zH (fun w=>dj 1 w);rw [show aG 1=true from rfl] at h;clear x;obtain ⟨D,a,b,k,s,p,out,V,Y,wl,Z,O,P,Q,S,rs,T,lo,hi⟩:=d;simp only at R ⊢;obtain ⟨w1,U,A,n⟩:=nF n (nN 1 a b k s p out V Y W nw C B nb cb O P Q S rs T lo hi) 84;obtain ⟨E,F,G,c4,H,I,J,K,L⟩:=uc9 A 0 2 3 4 5 6 7 8 9;obtain ⟨l,c,m,f,y,v,g,j,q⟩:=uc9 A 10 11 12 13 14 15 16 17 18;go_in
 go_wp2_with (go_at_call 97;refine (h.o _).mono ?_;rintro e w' ⟨rfl,rfl⟩)
 all_goals clear E F G c4 H I J K L l c m f y v g j q h
 all_goals go_ret
 all_goals exact ⟨aC (by rw [← R.o];clear n R;(try simp only [bne_iff_ne,bne_eq_false_iff_eq] at *);first|exact (qT oM).symm|exact (dF oM).symm|(rw [Bool.eq_iff_iff,bne_iff_ne,decide_eq_true_iff];omega)),n.u⟩
theorem DX (d:af) (W:QA) (nw C:Nat) (B:QA) (nb cb:Nat) (w:World) (x:d.kind=2) (i:nw=d.w.length) (t:nb=d.bias.length) (N:nw≤maxLen) (M:nb≤maxLen) :
  Calls prog 96 #[.agg (nN d.kind d.a d.b d.k d.s d.p d.out d.za d.zb W nw C B nb cb d.qm d.qs d.qz d.rm d.rs d.rz d.lo d.hi)] w fun e w'=>e=.returned (.bool (decide (bI d)))∧Below w w w':=by
 obtain ⟨r,z⟩:∃ r,decide (bI d)=r:=⟨_,rfl⟩;rw [z];have X:decide (d.out ≠ 0 ∨ (d.b ≠ 0 ∨ d.zb ≠ 0 ∨ d.rm ≠ 0 ∨ d.rs ≠ 0) ∨ d.rz ≠ 0)=r:=by
  rw [← z];refine decide_eq_decide.2 ?_;unfold bI;rw [x,← i,← t];simp [bk,cV,aG]
 have R:=zH X;clear z X i t;unfold maxLen at N M;have n:=zW w;rw [x];have h:=zH (fun w=>dj 2 w);rw [show aG 2=true from rfl] at h;clear x;obtain ⟨D,a,b,k,s,p,out,V,Y,wl,Z,O,P,Q,S,rs,T,lo,hi⟩:=d;simp only at R ⊢;obtain ⟨w1,U,A,n⟩:=nF n (nN 2 a b k s p out V Y W nw C B nb cb O P Q S rs T lo hi) 84;obtain ⟨E,F,G,c4,H,I,J,K,L⟩:=uc9 A 0 2 3 4 5 6 7 8 9;obtain ⟨l,c,m,f,y,v,g,j,q⟩:=uc9 A 10 11 12 13 14 15 16 17 18;go_in
 go_wp2_with (go_at_call 97;refine (h.o _).mono ?_;rintro e w' ⟨rfl,rfl⟩)
 all_goals clear E F G c4 H I J K L l c m f y v g j q h
 all_goals go_ret
 all_goals exact ⟨aC (by rw [← R.o];clear n R;(try simp only [bne_iff_ne,bne_eq_false_iff_eq] at *);first|exact (qT oM).symm|exact (dF oM).symm|(rw [Bool.eq_iff_iff,bne_iff_ne,decide_eq_true_iff];omega)),n.u⟩
theorem DY (d:af) (W:QA) (nw C:Nat) (B:QA) (nb cb:Nat) (w:World) (x:d.kind=3) (i:nw=d.w.length) (t:nb=d.bias.length) (N:nw≤maxLen) (M:nb≤maxLen) :
  Calls prog 96 #[.agg (nN d.kind d.a d.b d.k d.s d.p d.out d.za d.zb W nw C B nb cb d.qm d.qs d.qz d.rm d.rs d.rz d.lo d.hi)] w fun e w'=>e=.returned (.bool (decide (bI d)))∧Below w w w':=by
 obtain ⟨r,z⟩:∃ r,decide (bI d)=r:=⟨_,rfl⟩;rw [z];have X:decide ((d.k ≠ 0 ∨ d.s ≠ 0) ∨ d.p ≠ 0 ∨ (d.b ≠ 0 ∨ d.zb ≠ 0 ∨ d.rm ≠ 0 ∨ d.rs ≠ 0) ∨ d.rz ≠ 0)=r:=by
  rw [← z];refine decide_eq_decide.2 ?_;unfold bI;rw [x,← i,← t];simp [bk,cV,aG]
 have R:=zH X;clear z X i t;unfold maxLen at N M;have n:=zW w;rw [x];have h:=zH (fun w=>dj 3 w);rw [show aG 3=true from rfl] at h;clear x;obtain ⟨D,a,b,k,s,p,out,V,Y,wl,Z,O,P,Q,S,rs,T,lo,hi⟩:=d;simp only at R ⊢;obtain ⟨w1,U,A,n⟩:=nF n (nN 3 a b k s p out V Y W nw C B nb cb O P Q S rs T lo hi) 84;obtain ⟨E,F,G,c4,H,I,J,K,L⟩:=uc9 A 0 2 3 4 5 6 7 8 9;obtain ⟨l,c,m,f,y,v,g,j,q⟩:=uc9 A 10 11 12 13 14 15 16 17 18;go_in
 go_wp2_with (go_at_call 97;refine (h.o _).mono ?_;rintro e w' ⟨rfl,rfl⟩)
 all_goals clear E F G c4 H I J K L l c m f y v g j q h
 all_goals go_ret
 all_goals exact ⟨aC (by rw [← R.o];clear n R;(try simp only [bne_iff_ne,bne_eq_false_iff_eq] at *);first|exact (qT oM).symm|exact (dF oM).symm|(rw [Bool.eq_iff_iff,bne_iff_ne,decide_eq_true_iff];omega)),n.u⟩
theorem DZ (d:af) (W:QA) (nw C:Nat) (B:QA) (nb cb:Nat) (w:World) (x:d.kind=4) (i:nw=d.w.length) (t:nb=d.bias.length) (N:nw≤maxLen) (M:nb≤maxLen) :
  Calls prog 96 #[.agg (nN d.kind d.a d.b d.k d.s d.p d.out d.za d.zb W nw C B nb cb d.qm d.qs d.qz d.rm d.rs d.rz d.lo d.hi)] w fun e w'=>e=.returned (.bool (decide (bI d)))∧Below w w w':=by
 obtain ⟨r,z⟩:∃ r,decide (bI d)=r:=⟨_,rfl⟩;rw [z];have X:decide ((0 < nw ∨ 0 < nb) ∨ d.out ≠ 0 ∨ (d.b ≠ 0 ∨ d.zb ≠ 0 ∨ d.rm ≠ 0 ∨ d.rs ≠ 0) ∨ d.rz ≠ 0 ∨ (d.qm ≠ 0 ∨ d.qs ≠ 0 ∨ d.qz ≠ 0 ∨ d.lo ≠ 0 ∨ d.hi ≠ 0) ∨ d.za ≠ 0)=r:=by
  rw [← z];refine decide_eq_decide.2 ?_;unfold bI;rw [x,← i,← t];simp [bk,cV,aG]
 have R:=zH X;clear z X i t;unfold maxLen at N M;have n:=zW w;rw [x];have h:=zH (fun w=>dj 4 w);rw [show aG 4=false from rfl] at h;clear x;obtain ⟨D,a,b,k,s,p,out,V,Y,wl,Z,O,P,Q,S,rs,T,lo,hi⟩:=d;simp only at R ⊢;obtain ⟨w1,U,A,n⟩:=nF n (nN 4 a b k s p out V Y W nw C B nb cb O P Q S rs T lo hi) 84;obtain ⟨E,F,G,c4,H,I,J,K,L⟩:=uc9 A 0 2 3 4 5 6 7 8 9;obtain ⟨l,c,m,f,y,v,g,j,q⟩:=uc9 A 10 11 12 13 14 15 16 17 18;go_in
 go_wp2_with (go_at_call 97;refine (h.o _).mono ?_;rintro e w' ⟨rfl,rfl⟩)
 all_goals clear E F G c4 H I J K L l c m f y v g j q h
 all_goals go_ret
 all_goals exact ⟨aC (by rw [← R.o];clear n R;(try simp only [bne_iff_ne,bne_eq_false_iff_eq] at *);first|exact (qT oM).symm|exact (dF oM).symm|(rw [Bool.eq_iff_iff,bne_iff_ne,decide_eq_true_iff];omega)),n.u⟩
theorem D0 (d:af) (W:QA) (nw C:Nat) (B:QA) (nb cb:Nat) (w:World) (x:d.kind=5) (i:nw=d.w.length) (t:nb=d.bias.length) (N:nw≤maxLen) (M:nb≤maxLen) :
  Calls prog 96 #[.agg (nN d.kind d.a d.b d.k d.s d.p d.out d.za d.zb W nw C B nb cb d.qm d.qs d.qz d.rm d.rs d.rz d.lo d.hi)] w fun e w'=>e=.returned (.bool (decide (bI d)))∧Below w w w':=by
 obtain ⟨r,z⟩:∃ r,decide (bI d)=r:=⟨_,rfl⟩;rw [z];have X:decide ((0 < nw ∨ 0 < nb) ∨ d.out ≠ 0 ∨ (d.b ≠ 0 ∨ d.zb ≠ 0 ∨ d.rm ≠ 0 ∨ d.rs ≠ 0) ∨ d.rz ≠ 0 ∨ (d.qm ≠ 0 ∨ d.qs ≠ 0 ∨ d.qz ≠ 0 ∨ d.lo ≠ 0 ∨ d.hi ≠ 0) ∨ d.za ≠ 0)=r:=by
  rw [← z];refine decide_eq_decide.2 ?_;unfold bI;rw [x,← i,← t];simp [bk,cV,aG]
 have R:=zH X;clear z X i t;unfold maxLen at N M;have n:=zW w;rw [x];have h:=zH (fun w=>dj 5 w);rw [show aG 5=false from rfl] at h;clear x;obtain ⟨D,a,b,k,s,p,out,V,Y,wl,Z,O,P,Q,S,rs,T,lo,hi⟩:=d;simp only at R ⊢;obtain ⟨w1,U,A,n⟩:=nF n (nN 5 a b k s p out V Y W nw C B nb cb O P Q S rs T lo hi) 84;obtain ⟨E,F,G,c4,H,I,J,K,L⟩:=uc9 A 0 2 3 4 5 6 7 8 9;obtain ⟨l,c,m,f,y,v,g,j,q⟩:=uc9 A 10 11 12 13 14 15 16 17 18;go_in
 go_wp2_with (go_at_call 97;refine (h.o _).mono ?_;rintro e w' ⟨rfl,rfl⟩)
 all_goals clear E F G c4 H I J K L l c m f y v g j q h
 all_goals go_ret
 all_goals exact ⟨aC (by rw [← R.o];clear n R;(try simp only [bne_iff_ne,bne_eq_false_iff_eq] at *);first|exact (qT oM).symm|exact (dF oM).symm|(rw [Bool.eq_iff_iff,bne_iff_ne,decide_eq_true_iff];omega)),n.u⟩
theorem D3 (d:af) (W:QA) (nw C:Nat) (B:QA) (nb cb:Nat) (w:World) (x:d.kind=6) (i:nw=d.w.length) (t:nb=d.bias.length) (N:nw≤maxLen) (M:nb≤maxLen) :
  Calls prog 96 #[.agg (nN d.kind d.a d.b d.k d.s d.p d.out d.za d.zb W nw C B nb cb d.qm d.qs d.qz d.rm d.rs d.rz d.lo d.hi)] w fun e w'=>e=.returned (.bool (decide (bI d)))∧Below w w w':=by
 obtain ⟨r,z⟩:∃ r,decide (bI d)=r:=⟨_,rfl⟩;rw [z];have X:decide ((0 < nw ∨ 0 < nb) ∨ d.out ≠ 0 ∨ (d.k ≠ 0 ∨ d.s ≠ 0) ∨ d.p ≠ 0 ∨ d.rz ≠ 0)=r:=by
  rw [← z];refine decide_eq_decide.2 ?_;unfold bI;rw [x,← i,← t];simp [bk,cV,aG]
 have R:=zH X;clear z X i t;unfold maxLen at N M;have n:=zW w;rw [x];have h:=zH (fun w=>dj 6 w);rw [show aG 6=true from rfl] at h;clear x;obtain ⟨D,a,b,k,s,p,out,V,Y,wl,Z,O,P,Q,S,rs,T,lo,hi⟩:=d;simp only at R ⊢;obtain ⟨w1,U,A,n⟩:=nF n (nN 6 a b k s p out V Y W nw C B nb cb O P Q S rs T lo hi) 84;obtain ⟨E,F,G,c4,H,I,J,K,L⟩:=uc9 A 0 2 3 4 5 6 7 8 9;obtain ⟨l,c,m,f,y,v,g,j,q⟩:=uc9 A 10 11 12 13 14 15 16 17 18;go_in
 go_wp2_with (go_at_call 97;refine (h.o _).mono ?_;rintro e w' ⟨rfl,rfl⟩)
 all_goals clear E F G c4 H I J K L l c m f y v g j q h
 all_goals go_ret
 all_goals exact ⟨aC (by rw [← R.o];clear n R;(try simp only [bne_iff_ne,bne_eq_false_iff_eq] at *);first|exact (qT oM).symm|exact (dF oM).symm|(rw [Bool.eq_iff_iff,bne_iff_ne,decide_eq_true_iff];omega)),n.u⟩
theorem D4 (d:af) (W:QA) (nw C:Nat) (B:QA) (nb cb:Nat) (w:World) (x:d.kind=7) (i:nw=d.w.length) (t:nb=d.bias.length) (N:nw≤maxLen) (M:nb≤maxLen) :
  Calls prog 96 #[.agg (nN d.kind d.a d.b d.k d.s d.p d.out d.za d.zb W nw C B nb cb d.qm d.qs d.qz d.rm d.rs d.rz d.lo d.hi)] w fun e w'=>e=.returned (.bool (decide (bI d)))∧Below w w w':=by
 obtain ⟨r,z⟩:∃ r,decide (bI d)=r:=⟨_,rfl⟩;rw [z];have X:decide ((0 < nw ∨ 0 < nb) ∨ d.out ≠ 0 ∨ (d.k ≠ 0 ∨ d.s ≠ 0) ∨ d.p ≠ 0 ∨ (d.b ≠ 0 ∨ d.zb ≠ 0 ∨ d.rm ≠ 0 ∨ d.rs ≠ 0) ∨ d.rz ≠ 0)=r:=by
  rw [← z];refine decide_eq_decide.2 ?_;unfold bI;rw [x,← i,← t];simp [bk,cV,aG]
 have R:=zH X;clear z X i t;unfold maxLen at N M;have n:=zW w;rw [x];have h:=zH (fun w=>dj 7 w);rw [show aG 7=true from rfl] at h;clear x;obtain ⟨D,a,b,k,s,p,out,V,Y,wl,Z,O,P,Q,S,rs,T,lo,hi⟩:=d;simp only at R ⊢;obtain ⟨w1,U,A,n⟩:=nF n (nN 7 a b k s p out V Y W nw C B nb cb O P Q S rs T lo hi) 84;obtain ⟨E,F,G,c4,H,I,J,K,L⟩:=uc9 A 0 2 3 4 5 6 7 8 9;obtain ⟨l,c,m,f,y,v,g,j,q⟩:=uc9 A 10 11 12 13 14 15 16 17 18;go_in
 go_wp2_with (go_at_call 97;refine (h.o _).mono ?_;rintro e w' ⟨rfl,rfl⟩)
 all_goals clear E F G c4 H I J K L l c m f y v g j q h
 all_goals go_ret
 all_goals exact ⟨aC (by rw [← R.o];clear n R;(try simp only [bne_iff_ne,bne_eq_false_iff_eq] at *);first|exact (qT oM).symm|exact (dF oM).symm|(rw [Bool.eq_iff_iff,bne_iff_ne,decide_eq_true_iff];omega)),n.u⟩
theorem D5 (d:af) (W:QA) (nw C:Nat) (B:QA) (nb cb:Nat) (w:World) (x:d.kind=8) (i:nw=d.w.length) (t:nb=d.bias.length) (N:nw≤maxLen) (M:nb≤maxLen) :
  Calls prog 96 #[.agg (nN d.kind d.a d.b d.k d.s d.p d.out d.za d.zb W nw C B nb cb d.qm d.qs d.qz d.rm d.rs d.rz d.lo d.hi)] w fun e w'=>e=.returned (.bool (decide (bI d)))∧Below w w w':=by
 obtain ⟨r,z⟩:∃ r,decide (bI d)=r:=⟨_,rfl⟩;rw [z];have X:decide ((0 < nw ∨ 0 < nb) ∨ d.out ≠ 0 ∨ (d.k ≠ 0 ∨ d.s ≠ 0) ∨ (d.b ≠ 0 ∨ d.zb ≠ 0 ∨ d.rm ≠ 0 ∨ d.rs ≠ 0) ∨ d.rz ≠ 0 ∨ (d.qm ≠ 0 ∨ d.qs ≠ 0 ∨ d.qz ≠ 0 ∨ d.lo ≠ 0 ∨ d.hi ≠ 0))=r:=by
  rw [← z];refine decide_eq_decide.2 ?_;unfold bI;rw [x,← i,← t];simp [bk,cV,aG]
 have R:=zH X;clear z X i t;unfold maxLen at N M;have n:=zW w;rw [x];have h:=zH (fun w=>dj 8 w);rw [show aG 8=false from rfl] at h;clear x;obtain ⟨D,a,b,k,s,p,out,V,Y,wl,Z,O,P,Q,S,rs,T,lo,hi⟩:=d;simp only at R ⊢;obtain ⟨w1,U,A,n⟩:=nF n (nN 8 a b k s p out V Y W nw C B nb cb O P Q S rs T lo hi) 84;obtain ⟨E,F,G,c4,H,I,J,K,L⟩:=uc9 A 0 2 3 4 5 6 7 8 9;obtain ⟨l,c,m,f,y,v,g,j,q⟩:=uc9 A 10 11 12 13 14 15 16 17 18;go_in
 go_wp2_with (go_at_call 97;refine (h.o _).mono ?_;rintro e w' ⟨rfl,rfl⟩)
 all_goals clear E F G c4 H I J K L l c m f y v g j q h
 all_goals go_ret
 all_goals exact ⟨aC (by rw [← R.o];clear n R;(try simp only [bne_iff_ne,bne_eq_false_iff_eq] at *);first|exact (qT oM).symm|exact (dF oM).symm|(rw [Bool.eq_iff_iff,bne_iff_ne,decide_eq_true_iff];omega)),n.u⟩
theorem D6 (d:af) (W:QA) (nw C:Nat) (B:QA) (nb cb:Nat) (w:World) (x:d.kind=9) (i:nw=d.w.length) (t:nb=d.bias.length) (N:nw≤maxLen) (M:nb≤maxLen) :
  Calls prog 96 #[.agg (nN d.kind d.a d.b d.k d.s d.p d.out d.za d.zb W nw C B nb cb d.qm d.qs d.qz d.rm d.rs d.rz d.lo d.hi)] w fun e w'=>e=.returned (.bool (decide (bI d)))∧Below w w w':=by
 obtain ⟨r,z⟩:∃ r,decide (bI d)=r:=⟨_,rfl⟩;rw [z];have X:decide ((0 < nw ∨ 0 < nb) ∨ d.out ≠ 0 ∨ (d.k ≠ 0 ∨ d.s ≠ 0) ∨ d.p ≠ 0 ∨ (d.b ≠ 0 ∨ d.zb ≠ 0 ∨ d.rm ≠ 0 ∨ d.rs ≠ 0) ∨ d.rz ≠ 0 ∨ (d.qm ≠ 0 ∨ d.qs ≠ 0 ∨ d.qz ≠ 0 ∨ d.lo ≠ 0 ∨ d.hi ≠ 0) ∨ d.za ≠ 0)=r:=by
  rw [← z];refine decide_eq_decide.2 ?_;unfold bI;rw [x,← i,← t];simp [bk,cV,aG]
 have R:=zH X;clear z X i t;unfold maxLen at N M;have n:=zW w;rw [x];have h:=zH (fun w=>dj 9 w);rw [show aG 9=false from rfl] at h;clear x;obtain ⟨D,a,b,k,s,p,out,V,Y,wl,Z,O,P,Q,S,rs,T,lo,hi⟩:=d;simp only at R ⊢;obtain ⟨w1,U,A,n⟩:=nF n (nN 9 a b k s p out V Y W nw C B nb cb O P Q S rs T lo hi) 84;obtain ⟨E,F,G,c4,H,I,J,K,L⟩:=uc9 A 0 2 3 4 5 6 7 8 9;obtain ⟨l,c,m,f,y,v,g,j,q⟩:=uc9 A 10 11 12 13 14 15 16 17 18;go_in
 go_wp2_with (go_at_call 97;refine (h.o _).mono ?_;rintro e w' ⟨rfl,rfl⟩)
 all_goals clear E F G c4 H I J K L l c m f y v g j q h
 all_goals go_ret
 all_goals exact ⟨aC (by rw [← R.o];clear n R;(try simp only [bne_iff_ne,bne_eq_false_iff_eq] at *);first|exact (qT oM).symm|exact (dF oM).symm|(rw [Bool.eq_iff_iff,bne_iff_ne,decide_eq_true_iff];omega)),n.u⟩
end Go.Proofs.YtbecbfpoahhpnaaGreat
