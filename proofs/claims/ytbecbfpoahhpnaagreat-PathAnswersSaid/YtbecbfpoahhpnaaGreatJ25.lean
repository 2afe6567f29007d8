/- What is wrong with a node (layer 25): kinds.Check, the document's Check. -/
import Derived.Test.YtbecbfpoahhpnaaGreatJ24
import Derived.Test.YtbecbfpoahhpnaaGreatJ13
set_option linter.unusedVariables false
set_option linter.unusedSimpArgs false
set_option maxRecDepth 100000
set_option maxHeartbeats 16000000
namespace Go.Proofs.YtbecbfpoahhpnaaGreat
open Go.RowKit Go.ChangeShapes Go.WideShapes Tryz
theorem zt (d:af) (W:QA) (nw t:Nat) (B:QA) (nb cb:Nat) (w:World) (i:dP d.kind) (n:xA w W nw t d.w) (o:xB w B nb cb d.bias) (l:nw≤1048576) (r:nb≤1048576) :
  Calls prog 136 #[.agg (nN d.kind d.a d.b d.k d.s d.p d.out d.za d.zb W nw t B nb cb d.qm d.qs d.qz d.rm d.rs d.rz d.lo d.hi)] w (vN (cF d) w):=by
 obtain ⟨e,a,b,k,s,p,out,j,q,g,h,c,m,f,y,rs,v,lo,hi⟩:=d;unfold dP at i;simp only at i n o ⊢;exact BJ e a b k s p out j q c m f y rs v lo hi g h W nw t B nb cb w oM n o l r
theorem vp {k:Int} (h:k < 1 ∨ 9 < k):f7 k=ByteArray.mk #[]:=by
 unfold f7;rw [if_neg oM,if_neg oM,if_neg oM,if_neg oM,if_neg oM,if_neg oM,if_neg oM,if_neg oM,if_neg oM]
theorem lU (k:Int):(f7 k).toList.isEmpty=!decide (dP k):=by
 by_cases h:dP k
 ·rw [qT h];unfold dP at h;have:=gZ ⟨by omega,h.2⟩;rcases this with rfl|rfl|rfl|rfl|rfl|rfl|rfl|rfl|rfl|rfl
  ·omega
  all_goals (rw [ByteArray.toList_eq];rfl)
 ·rw [dF h];unfold dP at h;rw [vp oM,ByteArray.toList_eq];rfl
theorem ph (d:af) (t:dP d.kind) :
  (decide (d.w=(cF d).w) && decide (d.bias=(cF d).bias) && ([d.kind,d.a,d.b,d.k,d.s,d.p,d.out,0] == [(cF d).kind,(cF d).a,(cF d).b,(cF d).k,(cF d).s,(cF d).p,(cF d).out,0]) && ([d.za,d.zb,d.lo,d.hi] == [(cF d).za,(cF d).zb,(cF d).lo,(cF d).hi]) && ([d.qm,d.qs,d.qz] == [(cF d).qm,(cF d).qs,(cF d).qz]) && ([d.rm,d.rs,d.rz] == [(cF d).rm,(cF d).rs,(cF d).rz]))=!decide (bI d):=by
 obtain ⟨e,a,b,k,s,p,out,v,g,r,o,l,c,m,f,rs,y,lo,hi⟩:=d;unfold dP at t;have h:=gZ (k:=e) ⟨by simp only at t;omega,t.2⟩;simp only at t;rcases h with rfl|rfl|rfl|rfl|rfl|rfl|rfl|rfl|rfl|rfl
 ·omega
 all_goals
  rw [Bool.eq_iff_iff];simp only [cF,bI,bk,cV,aG,Bool.and_eq_true,Bool.not_eq_true',decide_eq_true_eq,decide_eq_false_iff_not,beq_iff_eq,List.cons.injEq,and_true];by_cases i:r=[] <;> by_cases n:o=[] <;> simp [i,n] <;> omega
def bu (d:af):Int :=
 if ¬ dP d.kind then 6 else if bI d then 2
 else if (aG d.kind=true∧aD d.qm d.qs=false) ∨ (d.kind=6∧aD d.rm d.rs=false) then 7
 else if aG d.kind=true∧d.hi < d.lo then 2 else 0
theorem Bq (d:af) (W:QA) (nw o:Nat) (B:QA) (nb cb:Nat) (w:World) (s:dP d.kind) (a:nw=d.w.length) (t:nb=d.bias.length) (n:nw≤maxLen) (i:nb≤maxLen) :
  Calls prog 96 #[.agg (nD d W nw o B nb cb)] w fun e w'=>e=.returned (.bool (decide (bI d)))∧Below w w w':=by
 unfold dP at s;have r:=gZ (k:=d.kind) ⟨by omega,s.2⟩;rcases r with h|h|h|h|h|h|h|h|h|h
 ·omega
 ·exact DW d W nw o B nb cb w h a t n i
 ·exact DX d W nw o B nb cb w h a t n i
 ·exact DY d W nw o B nb cb w h a t n i
 ·exact DZ d W nw o B nb cb w h a t n i
 ·exact D0 d W nw o B nb cb w h a t n i
 ·exact D3 d W nw o B nb cb w h a t n i
 ·exact D4 d W nw o B nb cb w h a t n i
 ·exact D5 d W nw o B nb cb w h a t n i
 ·exact D6 d W nw o B nb cb w h a t n i
theorem mY {k:Int} (h:aG k=false):k ≠ 6:=by rintro rfl;cases h
theorem kY (d:af) (W:QA) (nw F:Nat) (B:QA) (nb cb:Nat) (w:World) (hw:xA w W nw F d.w) (t:xB w B nb cb d.bias) (mw:nw≤1048576) (mb:nb≤1048576) :
  Calls prog 106 #[.agg (nD d W nw F B nb cb)] w fun e w'=>e=.returned (.int .i64 (bu d))∧Below w w w':=by
 obtain ⟨r,hr⟩:∃ r,bu d=r:=⟨_,rfl⟩;rw [hr];unfold bu at hr;have V:=zH hr.symm;clear hr;obtain ⟨m,c⟩:=zh2 hw t;clear hw t;obtain ⟨Z,L,FQ,M,NT⟩:=zh5 (fun w=>qS d.kind w) (fun w=>nC d.kind w) (fun w=>dO d.qm d.qs d.qz w) (fun w=>dO d.rm d.rs d.rz w) (lU d.kind);have i:=zW w;obtain ⟨w1,Q,l,al⟩:=nB w (nD d W nw F B nb cb) 84;obtain ⟨i,m,c⟩:=uz3 al i m c;clear al;have c0:=l.o.cell 0;obtain ⟨nm,an⟩:∃ x,f7 d.kind=x:=⟨_,rfl⟩;rw [an] at Z NT;clear an;have PL:=zH (fun w' (f:dP d.kind) (t:Below w1 w1 w')=>zt d W nw F B nb cb w' f (m.o.fut t) (c.o.fut t) mw mb);by_cases f:dP d.kind;rotate_left
 ·have tn:nm.toList.isEmpty=true:=by
   have:=NT.o;rw [dF f] at this;exact this
  have R:=zH (show r=6 by rw [V.o,if_pos f]);clear f V NT;go_in;go_wp2_with fail;refine qM (Z.o _) fun X t=>?_;replace i:=zF t i;clear t;clear c0 Q;go_wp2;go_ret;exact ⟨by rw [R.o];rfl,i.u⟩
 have tn:nm.toList.isEmpty=false:=by
  have:=NT.o;rw [qT f] at this;exact this
 clear NT;by_cases U:bI d
 ·obtain ⟨R,T⟩:=zh2 (show r=2 by rw [V.o,if_neg (fun h=>h f),if_pos U]) (ph d f);have dm:decide (bI d)=true:=qT U;rw [dm] at T;clear V U dm;go_in;go_wp2_with fail;refine qM (Z.o _) fun X t=>?_;have K2:=zH t;obtain ⟨i,m,c,l⟩:=uz4 t i m c l;clear t;clear c0 Q;go_wp2_with fail;refine wp_region_held_drew (S:=fun w'=>Blk w' w.heap.size 84 (nD d W nw F B nb cb)∧Below X X w') kM ?_ (fun n=>?_)
  ·exact ⟨l.o.drew,(qB _ _).drew⟩
  refine tkH 0 rfl (yP (nD d W nw F B nb cb) (fun w P=>P.1)) n ?_;try simp only [pX]
  refine tkH 1 rfl (yP (nD d W nw F B nb cb) (fun w P=>P.1)) n ?_;try simp only [pX]
  refine rH 2 rfl (fun K G=>?_);go_simp;refine (PL.o _ f (aa (qB _ _).drew K2.o)).mono ?_;rintro e w3 ⟨W1,n1,c1,B1,n2,c2,rfl,s1,s2,t⟩;have S1:=zH s1;have S2:=zH s2;have O:=zH (az (qB _ _).drew t (lR _));clear s1 s2;refine xK G (zR t n) fun n=>?_;clear G K;refine rH 3 rfl (fun K G=>?_);go_simp;refine qM (pD _ _ _ _ _ _ d.kind d.a d.b d.k d.s d.p d.out d.za d.zb d.qm d.qs d.qz d.rm d.rs d.rz d.lo d.hi _ _ _ _ _ _ _ _ _ _ _ _ _ _ _ _ _ d.w d.bias _ _ W nw F B nb cb W1 n1 c1 B1 n2 c2 _ (m.o.fut O.o) (c.o.fut O.o) S1.o.old S2.o.old rfl rfl rfl rfl rfl rfl) fun w4 t=>?_;rw [T.o];refine xK G (zR t n) fun n=>?_;clear G K;refine kH' 4 n ?_;refine kH' 5 n ?_;refine wpAnyH_done kM ?_ _;have t:=n.2;obtain ⟨i,m,c,l⟩:=uz4 t i m c l;clear t;clear n S1 S2 O;go_wp2;go_ret;exact ⟨by rw [R.o];rfl,i.u⟩
 have T:=zH (ph d f);have dm:decide (bI d)=false:=dF U;rw [dm] at T;have H:=zH (show r=(if (aG d.kind=true∧aD d.qm d.qs=false) ∨ (d.kind=6∧aD d.rm d.rs=false) then 7 else if aG d.kind=true∧d.hi < d.lo then 2 else 0) by rw [V.o,if_neg (fun h=>h f),if_neg U]);clear V U dm;go_in;go_wp2_with fail;refine qM (Z.o _) fun X t=>?_;have K2:=zH t;obtain ⟨i,m,c,l⟩:=uz4 t i m c l;clear t;clear c0 Q;go_wp2_with fail;refine wp_region_held_drew (S:=fun w'=>Blk w' w.heap.size 84 (nD d W nw F B nb cb)∧Below X X w') kM ?_ (fun n=>?_)
 ·exact ⟨l.o.drew,(qB _ _).drew⟩
 refine tkH 0 rfl (yP (nD d W nw F B nb cb) (fun w P=>P.1)) n ?_;try simp only [pX]
 refine tkH 1 rfl (yP (nD d W nw F B nb cb) (fun w P=>P.1)) n ?_;try simp only [pX]
 refine rH 2 rfl (fun K G=>?_);go_simp;refine (PL.o _ f (aa (qB _ _).drew K2.o)).mono ?_;rintro e w3 ⟨W1,n1,c1,B1,n2,c2,rfl,s1,s2,t⟩;have S1:=zH s1;have S2:=zH s2;have O:=zH (az (qB _ _).drew t (lR _));clear s1 s2;refine xK G (zR t n) fun n=>?_;clear G K;refine rH 3 rfl (fun K G=>?_);go_simp;refine qM (pD _ _ _ _ _ _ d.kind d.a d.b d.k d.s d.p d.out d.za d.zb d.qm d.qs d.qz d.rm d.rs d.rz d.lo d.hi _ _ _ _ _ _ _ _ _ _ _ _ _ _ _ _ _ d.w d.bias _ _ W nw F B nb cb W1 n1 c1 B1 n2 c2 _ (m.o.fut O.o) (c.o.fut O.o) S1.o.old S2.o.old rfl rfl rfl rfl rfl rfl) fun w4 t=>?_;rw [T.o];refine xK G (zR t n) fun n=>?_;clear G K;refine kH' 4 n ?_;refine kH' 5 n ?_;refine wpAnyH_done kM ?_ _;have t:=n.2;obtain ⟨i,m,c,l⟩:=uz4 t i m c l;clear t;clear n S1 S2 O;clear K2 m c PL T Z;obtain ⟨sc,ad⟩:∃ x,aG d.kind=x:=⟨_,rfl⟩;obtain ⟨q,hq⟩:∃ x,aD d.qm d.qs=x:=⟨_,rfl⟩;obtain ⟨qr,ah⟩:∃ x,aD d.rm d.rs=x:=⟨_,rfl⟩;have KW:=zH (mY (k:=d.kind));rw [ad] at L H KW;rw [hq] at FQ H;rw [ah] at M H;clear ad hq ah f tn;obtain ⟨Y,v,g,j,z,A,C,D,E⟩:=uc9 l 0 11 12 13 14 15 16 17 18;cases sc
 case false =>
  have I:=KW.o rfl;have t6:(d.kind == 6)=false:=by simpa using I
  have J:=zH I;clear I
  go_wp2_with (go_at_call 137;refine (L.o _).mono ?_;rintro e w' ⟨rfl,rfl⟩)
  go_ret;exact ⟨by rw [H.o];simp [J.o],i.u⟩
 case true =>
  clear KW;cases q
  case false =>
   go_wp2_with (go_at_call 137;refine (L.o _).mono ?_;rintro e w' ⟨rfl,rfl⟩)
   refine qM (FQ.o _) fun w5 t=>?_;clear Y v g j z A C D E;replace i:=zF t i;clear t;go_wp2;go_ret;exact ⟨by rw [H.o];simp,i.u⟩
  case true =>
   go_wp2_with (go_at_call 137;refine (L.o _).mono ?_;rintro e w' ⟨rfl,rfl⟩)
   refine qM (FQ.o _) fun w5 t=>?_;clear Y v g j z A C D E;obtain ⟨i,l⟩:=uz2 t i l;clear t;obtain ⟨Y,v,g,j,z,A,C,D,E⟩:=uc9 l 0 11 12 13 14 15 16 17 18;by_cases I:d.kind=6
   ·have t6:(d.kind == 6)=true:=by simpa using I
    have J:=zH I;clear I;cases qr
    case false =>
     go_wp2_with fail;refine qM (M.o _) fun w6 t=>?_;clear Y v g j z A C D E;replace i:=zF t i;clear t;go_wp2;go_ret;exact ⟨by rw [H.o];simp [J.o],i.u⟩
    case true =>
     go_wp2_with fail;refine qM (M.o _) fun w6 t=>?_;clear Y v g j z A C D E;obtain ⟨i,l⟩:=uz2 t i l;clear t;obtain ⟨Y,v,g,j,z,A,C,D,E⟩:=uc9 l 0 11 12 13 14 15 16 17 18;by_cases y:d.hi < d.lo
     ·have tl:decide (d.hi < d.lo)=true:=qT y;have N:=zH y;clear y
      go_wp2_with (go_at_call 137;refine (L.o _).mono ?_;rintro e w' ⟨rfl,rfl⟩)
      go_ret;exact ⟨by rw [H.o];simp [N.o,J.o],i.u⟩
     ·have tl:decide (d.hi < d.lo)=false:=dF y;have N:=zH y;clear y
      go_wp2_with (go_at_call 137;refine (L.o _).mono ?_;rintro e w' ⟨rfl,rfl⟩)
      go_ret;exact ⟨by rw [H.o];simp [N.o,J.o],i.u⟩
   ·have t6:(d.kind == 6)=false:=by simpa using I
    have J:=zH I;clear I;by_cases y:d.hi < d.lo
    ·have tl:decide (d.hi < d.lo)=true:=qT y;have N:=zH y;clear y
     go_wp2_with (go_at_call 137;refine (L.o _).mono ?_;rintro e w' ⟨rfl,rfl⟩)
     go_ret;exact ⟨by rw [H.o];simp [N.o,J.o],i.u⟩
    ·have tl:decide (d.hi < d.lo)=false:=dF y;have N:=zH y;clear y
     go_wp2_with (go_at_call 137;refine (L.o _).mono ?_;rintro e w' ⟨rfl,rfl⟩)
     go_ret;exact ⟨by rw [H.o];simp [N.o,J.o],i.u⟩
theorem pt (d:af) (W:QA) (nw S:Nat) (B:QA) (nb cb:Nat) (w:World) (hw:xA w W nw S d.w) (t:xB w B nb cb d.bias) (mw:nw≤1048576) (mb:nb≤1048576) :
  Calls prog 73 #[.agg (nD d W nw S B nb cb)] w fun e w'=>e=.returned (.int .i64 (bu d))∧Below w w w':=by
 obtain ⟨r,T⟩:∃ r,bu d=r:=⟨_,rfl⟩;rw [T];unfold bu at T;have V:=zH T.symm;clear T;obtain ⟨g,b⟩:=zh2 hw t;clear hw t;obtain ⟨K,E,U,F,L⟩:=zh5 (fun w=>zI d.kind w) (fun w=>dj d.kind w) (fun w=>fj d.qm d.qs d.qz w) (fun w=>fj d.rm d.rs d.rz w) (lU d.kind);have a:=zW w;obtain ⟨w1,H,i,Q⟩:=nB w (nD d W nw S B nb cb) 84;obtain ⟨a,g,b⟩:=uz3 Q a g b;clear Q;have Y:=i.o.cell 0;obtain ⟨nm,N⟩:∃ x,f7 d.kind=x:=⟨_,rfl⟩;rw [N] at K L;clear N;have C:=zH (fun w' (j:dP d.kind)=>Bq d W nw S B nb cb w' j g.o.n_eq.symm b.o.n_eq.symm mL mL);by_cases j:dP d.kind;rotate_left
 ·have tn:nm.toList.isEmpty=true:=by
   have:=L.o;rw [dF j] at this;exact this
  have R:=zH (show r=6 by rw [V.o,if_pos j]);clear j V L;go_in;go_wp2_with fail;refine qM (K.o _) fun w2 t=>?_;replace a:=zF t a;clear t;clear Y H;go_wp2;go_ret;exact ⟨by rw [R.o];rfl,a.u⟩
 have tn:nm.toList.isEmpty=false:=by
  have:=L.o;rw [qT j] at this;exact this
 clear L;by_cases I:bI d
 ·have R:=zH (show r=2 by rw [V.o,if_neg (fun h=>h j),if_pos I]);have M:decide (bI d)=true:=qT I;replace C:=zH (fun w'=>C.o w' j);rw [M] at C;clear V I M;go_in;go_wp2_with fail;refine qM (K.o _) fun w2 t=>?_;have K2:=zH t;obtain ⟨a,g,b,i⟩:=uz4 t a g b i;clear t;clear Y H
  go_wp2_with (refine lG i.o ?_)
  refine qM (C.o _) fun w4 t=>?_;obtain ⟨a,g,b,i⟩:=uz4 t a g b i;clear t;go_wp2;go_ret;exact ⟨by rw [R.o];rfl,a.u⟩
 have M:decide (bI d)=false:=dF I;replace C:=zH (fun w'=>C.o w' j);rw [M] at C;have z:=zH (show r=(if (aG d.kind=true∧aD d.qm d.qs=false) ∨ (d.kind=6∧aD d.rm d.rs=false) then 7 else if aG d.kind=true∧d.hi < d.lo then 2 else 0) by rw [V.o,if_neg (fun h=>h j),if_neg I]);clear V I M;go_in;go_wp2_with fail;refine qM (K.o _) fun w2 t=>?_;have K2:=zH t;obtain ⟨a,g,b,i⟩:=uz4 t a g b i;clear t;clear Y H
 go_wp2_with (refine lG i.o ?_)
 refine qM (C.o _) fun w4 t=>?_;obtain ⟨a,g,b,i⟩:=uz4 t a g b i;clear t;clear K2 g b C K;obtain ⟨sc,P⟩:∃ x,aG d.kind=x:=⟨_,rfl⟩;obtain ⟨q,hq⟩:∃ x,aD d.qm d.qs=x:=⟨_,rfl⟩;obtain ⟨qr,O⟩:∃ x,aD d.rm d.rs=x:=⟨_,rfl⟩;have X:=zH (mY (k:=d.kind));rw [P] at E z X;rw [hq] at U z;rw [O] at F z;clear P hq O j tn;obtain ⟨J,s,l,c,m,f,y,p,v⟩:=uc9 i 0 11 12 13 14 15 16 17 18;cases sc
 case false =>
  have A:=X.o rfl;have t6:(d.kind == 6)=false:=by simpa using A
  have D:=zH A;clear A
  go_wp2_with (go_at_call 97;refine (E.o _).mono ?_;rintro e w' ⟨rfl,rfl⟩)
  go_ret;exact ⟨by rw [z.o];simp [D.o],a.u⟩
 case true =>
  clear X;cases q
  case false =>
   go_wp2_with (go_at_call 97;refine (E.o _).mono ?_;rintro e w' ⟨rfl,rfl⟩)
   refine qM (U.o _) fun w5 t=>?_;clear J s l c m f y p v;replace a:=zF t a;clear t;go_wp2;go_ret;exact ⟨by rw [z.o];simp,a.u⟩
  case true =>
   go_wp2_with (go_at_call 97;refine (E.o _).mono ?_;rintro e w' ⟨rfl,rfl⟩)
   refine qM (U.o _) fun w5 t=>?_;clear J s l c m f y p v;obtain ⟨a,i⟩:=uz2 t a i;clear t;obtain ⟨J,s,l,c,m,f,y,p,v⟩:=uc9 i 0 11 12 13 14 15 16 17 18;by_cases A:d.kind=6
   ·have t6:(d.kind == 6)=true:=by simpa using A
    have D:=zH A;clear A;cases qr
    case false =>
     go_wp2_with fail;refine qM (F.o _) fun w6 t=>?_;clear J s l c m f y p v;replace a:=zF t a;clear t;go_wp2;go_ret;exact ⟨by rw [z.o];simp [D.o],a.u⟩
    case true =>
     go_wp2_with fail;refine qM (F.o _) fun w6 t=>?_;clear J s l c m f y p v;obtain ⟨a,i⟩:=uz2 t a i;clear t;obtain ⟨J,s,l,c,m,f,y,p,v⟩:=uc9 i 0 11 12 13 14 15 16 17 18;by_cases n:d.hi < d.lo
     ·have Z:decide (d.hi < d.lo)=true:=qT n;have G:=zH n;clear n
      go_wp2_with (go_at_call 97;refine (E.o _).mono ?_;rintro e w' ⟨rfl,rfl⟩)
      go_ret;exact ⟨by rw [z.o];simp [G.o,D.o],a.u⟩
     ·have Z:decide (d.hi < d.lo)=false:=dF n;have G:=zH n;clear n
      go_wp2_with (go_at_call 97;refine (E.o _).mono ?_;rintro e w' ⟨rfl,rfl⟩)
      go_ret;exact ⟨by rw [z.o];simp [G.o,D.o],a.u⟩
   ·have t6:(d.kind == 6)=false:=by simpa using A
    have D:=zH A;clear A;by_cases n:d.hi < d.lo
    ·have Z:decide (d.hi < d.lo)=true:=qT n;have G:=zH n;clear n
     go_wp2_with (go_at_call 97;refine (E.o _).mono ?_;rintro e w' ⟨rfl,rfl⟩)
     go_ret;exact ⟨by rw [z.o];simp [G.o,D.o],a.u⟩
    ·have Z:decide (d.hi < d.lo)=false:=dF n;have G:=zH n;clear n
     go_wp2_with (go_at_call 97;refine (E.o _).mono ?_;rintro e w' ⟨rfl,rfl⟩)
     go_ret;exact ⟨by rw [z.o];simp [G.o,D.o],a.u⟩
theorem pF (a:Int) (A:QA) (n c:Nat) (l:List Int) (w:World) (f:Sl (ab .i64) w (blo w) A n c l) :
  Calls prog 230 #[.int .i64 a,.slice A n c] w fun e w'=>e=.returned (.agg #[.int .i64 (ofR a l).1,.int .i64 (ofR a l).2])∧Below w w w':=by
 have N:n≤9223372036854775807:=lT f.cap_le f.max_le;obtain ⟨K,j⟩:=zh2 f.n_eq (Old.now f);have h:=zW w;obtain ⟨D,E,F,H,Y,Z,g,I,y⟩:=bk2 w #[.int .i64 0,.int .i64 0] 298 #[.int .i64 a,.int .i64 a] 298;replace h:=zF y h;clear y;clear f;go_in;go_wp2_with fail;clear F H;have J:=zH (show E.grownBy E (some D.heap.size) from ⟨rfl,rfl,rfl,lR _,fun _ _ _=>rfl⟩);go_loopw [13] (fun C wr=>∃ k:Nat,k≤n∧C=.int .i64 k∧E.grownBy wr (some D.heap.size)∧Blk wr D.heap.size 298 #[.int .i64 (ofR a (l.take k)).1,.int .i64 (ofR a (l.take k)).2]) (fun C _=>n - (intOf C).toNat)
 case atStart=>exact ⟨0,zl _,rfl,J.o,I.o⟩
 case round =>
  obtain ⟨k,X,rfl,d,M⟩:=hrel;have G:=zH d;have zr:=d.size;replace j:=zH ((j.o.fut h.u).away d oM);replace h:=zA d h;replace g:=zA d g;have s:=zH M;clear d M I J;by_cases B:k < n
  ·have p1:(k:Int) < (n:Int):=oM;obtain ⟨U,oz,rfl,-,-,R,S⟩:=j.o.out.int_at k B;have L:=zH (bG l k (l.getD k 0) (by rw [gD,List.getElem?_eq_getElem (by have:=K.o;omega)];rfl));obtain ⟨x,O⟩:∃ x,l.getD k 0=x:=⟨_,rfl⟩;rw [O] at R S L;have v:=zH (nX a (l.take k) x);obtain ⟨⟨p,q⟩,m⟩:∃ r,ofR a (l.take k)=r:=⟨_,rfl⟩;rw [m] at s v;simp only at s v;obtain ⟨V,W⟩:=uc2 s 0 1;obtain ⟨P,t⟩:∃ r,min p x=r:=⟨_,rfl⟩;obtain ⟨Q,i⟩:∃ r,max q x=r:=⟨_,rfl⟩;have mn:(if x < p then x else p)=P:=by rw [mnI,t]
   have mn9:min p x=P:=(mnI p x).symm.trans mn
   have mx:(if q < x then x else q)=Q:=by rw [mxI,i]
   have mx9:max q x=Q:=(mxI q x).symm.trans mx
   rw [t,i] at v;clear O m
   go_wp2_with (refine sG #[.int .i64 P,.int .i64 Q] s.o ?_;intro T b z)
   exact ⟨⟨k+1,by omega,by go_num,grT G.o z,by rw [L.o,v.o];exact b⟩,by simp [intOf];omega⟩
  ·obtain rfl:k=n:=oM;have e:=K.o;rw [List.take_of_length_le oM] at s
   go_wp2_with (first|(refine lG s.o ?_)|(refine sG #[.int .i64 (ofR a l).1,.int .i64 (ofR a l).2] g.o ?_;intro T b z))
   refine ret_cell rfl b rfl underlying298 kM rfl ?_;exact ⟨rfl,(h.o.away z oM).out⟩
theorem vI (A:QA) (n M:Nat) (l:List Int) (b lo hi z:Int) (gaps:Bool) (w:World) (hs:xA w A n M l) (hn:n≤16384) (m:InK .i32 b) (c:InK .i8 lo) (d:InK .i8 hi) (K:InK .i8 z) :
  Calls prog 201 #[.slice A n M,.int .i32 b,.int .i8 lo,.int .i8 hi,.int .i8 z,.bool gaps] w fun e w'=>e=.returned (.agg #[.int .i64 (aL b lo hi z gaps l).1,.int .i64 (aL b lo hi z gaps l).2])∧Below w w w':=by
 obtain ⟨W,RB,OB,MB,ON⟩:=zh5 hs.n_eq (qv (gaps:=gaps) c d K hs.allK m) (fun v g=>vS (v:=v) gaps c d K g) (fun v g=>And.intro (jp (v:=v) g c K) (jp (v:=v) g d K)) (show ∀ v,iA lo hi z gaps v=if gaps=true then (min (min (v*(lo - z)) (v*(hi - z))) 0,max (max (v*(lo - z)) (v*(hi - z))) 0) else (min (v*(lo - z)) (v*(hi - z)),max (v*(lo - z)) (v*(hi - z))) from fun _=>rfl);have g1:IntKind.i64.wrap b=b:=wI _ (by rw [cE] at m;omega);have O:=Old.now hs;rw [bj] at c d K;have g2:IntKind.i64.wrap lo=lo:=wJ;have g3:IntKind.i64.wrap hi=hi:=wJ;have g4:IntKind.i64.wrap z=z:=wJ;obtain ⟨dl,C⟩:∃ x,lo - z=x:=⟨_,rfl⟩;obtain ⟨dh,B⟩:∃ x,hi - z=x:=⟨_,rfl⟩;have g5:IntKind.i64.wrap (lo - z)=dl:=by rw [← C];exact wJ
 have g6:IntKind.i64.wrap (hi - z)=dh:=by rw [← B];exact wJ
 rw [C,B] at MB ON;have HS:=zH O;have a:=zW w;obtain ⟨w1,w2,ad,al,l1,l2,h,BO,P⟩:=bk2 w #[.int .i64 0,.int .i64 0] 298 #[.int .i64 b,.int .i64 b] 298;replace a:=zF P a;clear P;clear hs O m c d K C B;go_in;go_wp2_with fail;clear ad al;have GR:=zH (grS w2 (some w1.heap.size));go_loopw [24] (fun ii wr=>∃ k:Nat,k≤n∧ii=.int .i64 k∧w2.grownBy wr (some w1.heap.size)∧Blk wr w1.heap.size 298 #[.int .i64 (aL b lo hi z gaps (l.take k)).1,.int .i64 (aL b lo hi z gaps (l.take k)).2]) (fun ii _=>n - (intOf ii).toNat)
 case atStart=>exact ⟨0,zl _,rfl,GR.o,BO.o⟩
 case round =>
  obtain ⟨k,hk,rfl,J,hB⟩:=hrel;have G:=zH J;have zr:=J.size;replace HS:=zH ((HS.o.fut a.u).away J oM);replace a:=zA J a;replace h:=zA J h;have t:=zH hB;clear J hB BO GR;by_cases ah:k < n
  ·have p1:(k:Int) < (n:Int):=oM;obtain ⟨bz,oz,rfl,-,-,cx,ix⟩:=HS.o.out.int_at k ah;have X:=zH (bG l k (l.getD k 0) (by rw [gD,List.getElem?_eq_getElem (by have:=W.o;omega)];rfl));have rb:=RB.o k (by have:=W.o;omega);have i:=RB.o (k+1) (by have:=W.o;omega);rw [X.o] at i;obtain ⟨x,hx⟩:∃ x,l.getD k 0=x:=⟨_,rfl⟩;rw [hx] at cx ix X i;have j:=zH (mf b lo hi z gaps (l.take k) x);rw [j.o] at i;have mb:=MB.o x ix;have on:=ON.o x;obtain ⟨⟨o1,o2⟩,ho⟩:∃ r,iA lo hi z gaps x=r:=⟨_,rfl⟩;rw [ho] at j i on;obtain ⟨⟨p,q⟩,N⟩:∃ r,aL b lo hi z gaps (l.take k)=r:=⟨_,rfl⟩;rw [N] at t j rb i;simp only at t j rb i;obtain ⟨u,hu⟩:∃ r,x*dl=r:=⟨_,rfl⟩;obtain ⟨v,g⟩:∃ r,x*dh=r:=⟨_,rfl⟩;rw [hu,g] at mb on;have e1:IntKind.i64.wrap x=x:=wI _ (by rw [bj] at ix;omega);have e2:IntKind.i64.wrap (x*dl)=u:=by rw [hu];exact wJ
   have e3:IntKind.i64.wrap (x*dh)=v:=by rw [g];exact wJ
   have IV:=zH (show InK .i64 v by rw [ai];omega);obtain ⟨Y,Z⟩:=uc2 t 0 1;obtain ⟨p',F⟩:∃ r,p+o1=r:=⟨_,rfl⟩;obtain ⟨q',H⟩:∃ r,q+o2=r:=⟨_,rfl⟩;have f1:IntKind.i64.wrap (p+o1)=p':=by rw [F];exact wJ
   have f2:IntKind.i64.wrap (q+o2)=q':=by rw [H];exact wJ
   rw [F,H] at j;have ZR:=zH zr;obtain ⟨f,D⟩:∃ r,min u v=r:=⟨_,rfl⟩;obtain ⟨y,E⟩:∃ r,max u v=r:=⟨_,rfl⟩;have OF:=zH (show ofR u [v]=(f,y) by rw [← D,← E];rfl);have mm:f≤y:=oM;have IM:=zH (show InK .i64 f∧InK .i64 y by rw [ai,ai];omega);rw [D,E] at on;clear hx N hu g F H rb i mb ho;have s:=zW wr;obtain ⟨w3,T,BL,Q⟩:=nB wr #[.int .i64 v] 3;obtain ⟨h,t,a,s⟩:=uz4 Q h t a s;clear Q;have l3:wr.heap.size < w3.heap.size:=by rw [← T];simp
   go_wp2_with fail;clear T;refine qM (pF u _ 1 1 [v] w3 (Sl.lit _ BL.o.heap rfl (by simpa using IV.o) BL.o.lt rfl rfl (by unfold maxLen;simp))) fun w4 m=>?_;rw [OF.o];obtain ⟨h,t,a,s⟩:=uz4 m h t a s;clear m;have l4:=s.o.size;obtain ⟨w5,U,I,R⟩:=nB w4 #[.int .i64 f,.int .i64 y] 298;obtain ⟨h,t,a,s⟩:=uz4 R h t a s;clear R;clear Y Z;obtain ⟨Y,Z⟩:=uc2 t 0 1;have l5:=zL U;obtain ⟨y0,y1⟩:=uc2 I 0 1;cases gaps with
   | false =>
    rw [if_neg dM] at on;injection on with on1 on2
    subst on1 on2
    go_wp2_with (refine sG #[.int .i64 p',.int .i64 q'] t.o ?_;intro w6 B6 g6)
    exact ⟨⟨k+1,by omega,by go_num,grT G.o (grT (grO s.o.out) g6),by rw [X.o,j.o];exact B6⟩,by simp [intOf];omega⟩
   | true =>
    rw [if_pos rfl] at on;injection on with on1 on2
    have an:=zH (show ofR 0 [f,y]=(o1,o2) by rw [on1,on2];show (min (min 0 f) y,max (max 0 f) y)=_;congr 1 <;> omega);clear on1 on2 D E OF;obtain ⟨w6,V,BM,S⟩:=nB w5 #[.int .i64 f,.int .i64 y] 3;obtain ⟨h,t,a,s,I⟩:=uz5 S h t a s I;clear S;have l6:=zL V;go_wp2_with fail;clear U V;refine qM (pF 0 _ 2 2 [f,y] w6 (Sl.lit _ BM.o.heap rfl (by simpa using IM.o) BM.o.lt rfl rfl (by unfold maxLen;simp))) fun w7 m=>?_;rw [an.o];obtain ⟨h,t,a,s,I⟩:=uz5 m h t a s I;clear m;clear Y Z y0 y1
    go_wp2_with (first|(refine sG #[.int .i64 o1,.int .i64 o2] I.o ?_;intro w8 B8 g8;have L:=zA g8 t;obtain ⟨Y,Z⟩:=uc2 L 0 1;have y0:=B8.cell 0;have y1:=B8.cell 1;have R8:=zA g8 s;have F8:=zH (a.o.away g8 (by have:=a.o.size;have:=s.o.size;omega)))|(refine sG #[.int .i64 p',.int .i64 q'] L.o ?_;intro w9 B9 g9))
    exact ⟨⟨k+1,by omega,by go_num,grT G.o (grT (grO R8.o.out) g9),by rw [X.o,j.o];exact B9⟩,by simp [intOf];omega⟩
  ·obtain rfl:k=n:=oM;have e:=W.o;rw [List.take_of_length_le oM] at t
   go_wp2_with (first|(refine lG t.o ?_)|(refine sG #[.int .i64 (aL b lo hi z gaps l).1,.int .i64 (aL b lo hi z gaps l).2] h.o ?_;intro w3 B3 g3))
   refine ret_cell rfl B3 rfl underlying298 kM rfl ?_;exact ⟨rfl,(a.o.away g3 oM).out⟩
def dS (a:Int):Int:=min (max a (-2147483648)) 2147483647
theorem gU (a:Int):InK .i32 (dS a):=by unfold dS;rw [cE];omega
theorem gV (a:Int):IntKind.i32.wrap (min (max a (-2147483648)) 2147483647)=dS a:=by
 have h:=gU a;unfold dS at *;rw [cE] at h;exact IntWalk.i32_in _ oM
theorem wZ (x:Int):(if x < -2147483648 then -2147483648 else x)=max x (-2147483648):=by split <;> omega
theorem wW (x:Int):(if 2147483647 < x then 2147483647 else x)=min x 2147483647:=by split <;> omega
def d8 (r:Int × Int) (m s z lo hi:Int):Int × Int:=(min (dq (dS r.1) m s z lo hi) (dq (dS r.2) m s z lo hi),max (dq (dS r.1) m s z lo hi) (dq (dS r.2) m s z lo hi))
theorem qJ (r:Int × Int) (m s z lo hi:Int):InK .i8 (d8 r m s z lo hi).1∧InK .i8 (d8 r m s z lo hi).2:=by
 have e:=kW (dS r.1) m s z lo hi;have t:=kW (dS r.2) m s z lo hi;unfold d8;rw [bj] at *;rw [bj];simp only;omega
theorem ss (a b m s z lo hi:Int) (w:World) (D:InK .i32 m) (I:InK .i8 z) (l:InK .i8 lo) (d:InK .i8 hi) :
  Calls prog 227 #[.agg #[.int .i64 a,.int .i64 b],.agg #[.int .i32 m,.int .i64 s,.int .i8 z],.int .i8 lo,.int .i8 hi] w fun e w'=>e=.returned (.tuple #[.int .i8 (d8 (a,b) m s z lo hi).1,.int .i8 (d8 (a,b) m s z lo hi).2])∧Below w w w':=by
 obtain ⟨x,A⟩:∃ x,dS a=x:=⟨_,rfl⟩;obtain ⟨y,B⟩:∃ x,dS b=x:=⟨_,rfl⟩;have R:InK .i32 x:=by rw [← A];exact gU a
 have S:InK .i32 y:=by rw [← B];exact gU b
 obtain ⟨L,M⟩:=zh2 (fun w=>iG x m s z lo hi w R D I l d) (fun w=>iG y m s z lo hi w S D I l d);obtain ⟨p,E⟩:∃ p,dq x m s z lo hi=p:=⟨_,rfl⟩;obtain ⟨q,F⟩:∃ p,dq y m s z lo hi=p:=⟨_,rfl⟩;have N:=zH (show d8 (a,b) m s z lo hi=(min p q,max p q) by unfold d8;simp only;rw [A,B,E,F]);rw [E] at L;rw [F] at M;obtain ⟨c,i⟩:∃ u,max a (-2147483648)=u:=⟨_,rfl⟩;obtain ⟨P,n⟩:∃ u,min c 2147483647=u:=⟨_,rfl⟩;have V:(if a < -2147483648 then -2147483648 else a)=c:=by rw [wZ,i]
 have V9:max a (-2147483648)=c:=(mxI a (-2147483648)).symm.trans V
 have W:(if 2147483647 < c then 2147483647 else c)=P:=by rw [wW,n]
 have W9:min c 2147483647=P:=(mnI c 2147483647).symm.trans W
 have X:IntKind.i32.wrap P=x:=by rw [← n,← i,← A];exact gV a
 obtain ⟨j,h⟩:∃ u,max b (-2147483648)=u:=⟨_,rfl⟩;obtain ⟨Q,r⟩:∃ u,min j 2147483647=u:=⟨_,rfl⟩;have Y:(if b < -2147483648 then -2147483648 else b)=j:=by rw [wZ,h]
 have Y9:max b (-2147483648)=j:=(mxI b (-2147483648)).symm.trans Y
 have Z:(if 2147483647 < j then 2147483647 else j)=Q:=by rw [wW,r]
 have Z9:min j 2147483647=Q:=(mnI j 2147483647).symm.trans Z
 have an:IntKind.i32.wrap Q=y:=by rw [← r,← h,← B];exact gV b
 obtain ⟨u,G⟩:∃ u,min p q=u:=⟨_,rfl⟩;obtain ⟨v,H⟩:∃ u,max p q=u:=⟨_,rfl⟩;have f3:(if q < p then q else p)=u:=by rw [mnI,G]
 have f39:min p q=u:=(mnI p q).symm.trans f3
 have f4:(if p < q then q else p)=v:=by rw [mxI,H]
 have f49:max p q=v:=(mxI p q).symm.trans f4
 rw [N.o];have O:=zH (show (min p q,max p q)=(u,v) by rw [G,H]);rw [O.o];have t:=zW w;obtain ⟨w1,w2,J,K,_,_,k,C,g⟩:=bk2 w #[.int .i64 a,.int .i64 b] 298 #[.int .i32 m,.int .i64 s,.int .i8 z] 82;replace t:=zF g t;clear g;obtain ⟨T,c⟩:=uc2 k 0 1;have l0:=t.o.size;clear A B E F i n h r R S D I l d G H N O;go_in
 go_wp2_with (first|(refine lG C.o ?_)|(go_at_call 218;with_reducible refine (L.o _).mono ?_;rintro e w3 ⟨rfl,f⟩;obtain ⟨t,C⟩:=uz2 f t C;have U:=f;clear f J K T;replace k:=zF U k;have c:=k.o.cell 1)|(go_at_call 218;with_reducible refine (M.o _).mono ?_;rintro e w4 ⟨rfl,f⟩;replace t:=zF f t;clear f))
 go_ret2
 exact ⟨rfl,t.u⟩
theorem qC (a b m s z lo hi:Int) (w:World) (B:InK .i32 m) (G:InK .i8 z) (l:InK .i8 lo) (d:InK .i8 hi) :
  Calls prog 124 #[.int .i64 a,.int .i64 b,.agg #[.int .i32 m,.int .i64 s,.int .i8 z],.int .i8 lo,.int .i8 hi] w fun e w'=>e=.returned (.tuple #[.int .i8 (d8 (a,b) m s z lo hi).1,.int .i8 (d8 (a,b) m s z lo hi).2])∧Below w w w':=by
 obtain ⟨x,k⟩:∃ x,dS a=x:=⟨_,rfl⟩;obtain ⟨y,j⟩:∃ x,dS b=x:=⟨_,rfl⟩;have O:InK .i32 x:=by rw [← k];exact gU a
 have P:InK .i32 y:=by rw [← j];exact gU b
 obtain ⟨I,J⟩:=zh2 (fun w=>jI x m s z lo hi w O B G l d) (fun w=>jI y m s z lo hi w P B G l d);obtain ⟨p,C⟩:∃ p,dq x m s z lo hi=p:=⟨_,rfl⟩;obtain ⟨q,D⟩:∃ p,dq y m s z lo hi=p:=⟨_,rfl⟩;have K:=zH (show d8 (a,b) m s z lo hi=(min p q,max p q) by unfold d8;simp only;rw [k,j,C,D]);rw [C] at I;rw [D] at J;obtain ⟨f,i⟩:∃ u,max a (-2147483648)=u:=⟨_,rfl⟩;obtain ⟨M,n⟩:∃ u,min f 2147483647=u:=⟨_,rfl⟩;have Q:(if a < -2147483648 then -2147483648 else a)=f:=by rw [wZ,i]
 have Q9:max a (-2147483648)=f:=(mxI a (-2147483648)).symm.trans Q
 have R:(if 2147483647 < f then 2147483647 else f)=M:=by rw [wW,n]
 have R9:min f 2147483647=M:=(mnI f 2147483647).symm.trans R
 have S:IntKind.i32.wrap M=x:=by rw [← n,← i,← k];exact gV a
 obtain ⟨g,h⟩:∃ u,max b (-2147483648)=u:=⟨_,rfl⟩;obtain ⟨N,r⟩:∃ u,min g 2147483647=u:=⟨_,rfl⟩;have T:(if b < -2147483648 then -2147483648 else b)=g:=by rw [wZ,h]
 have T9:max b (-2147483648)=g:=(mxI b (-2147483648)).symm.trans T
 have U:(if 2147483647 < g then 2147483647 else g)=N:=by rw [wW,r]
 have U9:min g 2147483647=N:=(mnI g 2147483647).symm.trans U
 have V:IntKind.i32.wrap N=y:=by rw [← r,← h,← j];exact gV b
 obtain ⟨u,E⟩:∃ u,min p q=u:=⟨_,rfl⟩;obtain ⟨v,F⟩:∃ u,max p q=u:=⟨_,rfl⟩;have W:(if q < p then q else p)=u:=by rw [mnI,E]
 have W9:min p q=u:=(mnI p q).symm.trans W
 have X:(if p < q then q else p)=v:=by rw [mxI,F]
 have X9:max p q=v:=(mxI p q).symm.trans X
 rw [K.o];have L:=zH (show (min p q,max p q)=(u,v) by rw [E,F]);rw [L.o];have t:=zW w;obtain ⟨Z,H,A,t⟩:=nF t #[.int .i32 m,.int .i64 s,.int .i8 z] 82;have Y:=t.o.size;clear k j C D i n h r O P B G l d E F K L;go_in
 go_wp2_with (first|(refine lG A.o ?_)|(go_at_call 165;with_reducible refine (I.o _).mono ?_;rintro e w3 ⟨rfl,c⟩;obtain ⟨t,A⟩:=uz2 c t A;clear c H)|(go_at_call 165;with_reducible refine (J.o _).mono ?_;rintro e w4 ⟨rfl,c⟩;replace t:=zF c t;clear c))
 go_ret2
 exact ⟨rfl,t.u⟩
theorem ui (A:QA) (n F:Nat) (l:List Int) (b lo hi z:Int) (gaps:Bool) (w:World) (J:xA w A n F l) (hn:n≤16384) (P:InK .i32 b) (s:InK .i8 lo) (i:InK .i8 hi) (H:InK .i8 z) :
  Calls prog 127 #[.slice A n F,.int .i32 b,.int .i8 lo,.int .i8 hi,.int .i8 z,.bool gaps] w fun e w'=>e=.returned (.tuple #[.int .i64 (aL b lo hi z gaps l).1,.int .i64 (aL b lo hi z gaps l).2])∧Below w w w':=by
 obtain ⟨I,Z,X,Y⟩:=zh4 J.n_eq (qv (gaps:=gaps) s i H J.allK P) (fun v E=>And.intro (jp (v:=v) E s H) (jp (v:=v) E i H)) (show ∀ v,iA lo hi z gaps v=if gaps=true then (min (min (v*(lo - z)) (v*(hi - z))) 0,max (max (v*(lo - z)) (v*(hi - z))) 0) else (min (v*(lo - z)) (v*(hi - z)),max (v*(lo - z)) (v*(hi - z))) from fun _=>rfl);have g1:IntKind.i64.wrap b=b:=wI _ (by rw [cE] at P;omega);have G:=Old.now J;rw [bj] at s i H;have g2:IntKind.i64.wrap lo=lo:=wJ;have g3:IntKind.i64.wrap hi=hi:=wJ;have g4:IntKind.i64.wrap z=z:=wJ;obtain ⟨O,c⟩:∃ x,lo - z=x:=⟨_,rfl⟩;obtain ⟨N,d⟩:∃ x,hi - z=x:=⟨_,rfl⟩;have g5:IntKind.i64.wrap (lo - z)=O:=by rw [← c];exact wJ
 have g6:IntKind.i64.wrap (hi - z)=N:=by rw [← d];exact wJ
 rw [c,d] at X Y;have M:=zH G;have h:=zW w;clear J G P s i H c d;go_in;go_wp2;go_loopw [14,15,16] (fun u v S wr=>∃ k:Nat,k≤n∧S=.int .i64 k∧u=.int .i64 (aL b lo hi z gaps (l.take k)).1∧v=.int .i64 (aL b lo hi z gaps (l.take k)).2∧Below w w wr) (fun _ _ S _=>n - (intOf S).toNat)
 case atStart=>exact ⟨0,zl _,rfl,rfl,rfl,h.u⟩
 case round =>
  obtain ⟨k,hk,rfl,rfl,rfl,hg⟩:=hrel;obtain ⟨M,h⟩:=uz2 hg M h;clear hg;by_cases Q:k < n
  ·have p1:(k:Int) < (n:Int):=oM;obtain ⟨bz,oz,rfl,-,-,cx,T⟩:=M.o.out.int_at k Q;have D:=zH (bG l k (l.getD k 0) (by rw [gD,List.getElem?_eq_getElem (by have:=I.o;omega)];rfl));have W:=Z.o k (by have:=I.o;omega);have t:=Z.o (k+1) (by have:=I.o;omega);rw [D.o] at t;obtain ⟨x,hx⟩:∃ x,l.getD k 0=x:=⟨_,rfl⟩;rw [hx] at cx T D t;have a:=zH (mf b lo hi z gaps (l.take k) x);rw [a.o] at t;have mb:=X.o x T;have on:=Y.o x;obtain ⟨⟨U,V⟩,ho⟩:∃ r,iA lo hi z gaps x=r:=⟨_,rfl⟩;rw [ho] at a t on;obtain ⟨⟨p,q⟩,j⟩:∃ r,aL b lo hi z gaps (l.take k)=r:=⟨_,rfl⟩;rw [j] at a W t;rw [j];simp only at a W t ⊢;obtain ⟨u,R⟩:∃ r,x*O=r:=⟨_,rfl⟩;obtain ⟨v,E⟩:∃ r,x*N=r:=⟨_,rfl⟩;rw [R,E] at mb on;have e1:IntKind.i64.wrap x=x:=wI _ (by rw [bj] at T;omega);have e2:IntKind.i64.wrap (x*O)=u:=by rw [R];exact wJ
   have e3:IntKind.i64.wrap (x*N)=v:=by rw [E];exact wJ
   obtain ⟨p',g⟩:∃ r,p+U=r:=⟨_,rfl⟩;obtain ⟨q',B⟩:∃ r,q+V=r:=⟨_,rfl⟩;have f1:IntKind.i64.wrap (p+U)=p':=by rw [g];exact wJ
   have f2:IntKind.i64.wrap (q+V)=q':=by rw [B];exact wJ
   rw [g,B] at a;obtain ⟨K,f⟩:∃ r,min u v=r:=⟨_,rfl⟩;obtain ⟨L,y⟩:∃ r,max u v=r:=⟨_,rfl⟩;have mm:K≤L:=oM;have h1:(if v < u then v else u)=K:=by rw [mnI,f]
   have h19:min u v=K:=(mnI u v).symm.trans h1
   have h2:(if u < v then v else u)=L:=by rw [mxI,y]
   have h29:max u v=L:=(mxI u v).symm.trans h2
   rw [f,y] at on;clear hx j R E g B W t mb ho f y;go_wp2_with fail;go_quiet (fail);obtain ⟨wq,C⟩:∃ m,wr.drewN nq=m:=⟨_,rfl⟩;have kd:Below wr wr wq:=by rw [← C];exact aI (qB _ _) _
   replace h:=zF kd h;clear cx kd;rw [C];clear C;cases gaps with
   | false =>
    rw [if_neg dM] at on;injection on with on1 on2
    subst on1 on2;go_wp2;exact ⟨⟨k+1,by omega,by go_num,by rw [D.o,a.o],by rw [D.o,a.o],h.u⟩,by simp [intOf];omega⟩
   | true =>
    rw [if_pos rfl] at on;injection on with on1 on2
    have h3:(if 0 < K then 0 else K)=U:=by rw [mnI,← on1]
    have h39:min K 0=U:=(mnI K 0).symm.trans h3
    have h4:(if L < 0 then 0 else L)=V:=by rw [mxI,← on2]
    have h49:max L 0=V:=(mxI L 0).symm.trans h4
    clear on1 on2;go_wp2;exact ⟨⟨k+1,by omega,by go_num,by rw [D.o,a.o],by rw [D.o,a.o],h.u⟩,by simp [intOf];omega⟩
  ·obtain rfl:k=n:=oM;have e:=I.o;rw [List.take_of_length_le oM];go_wp2_with fail
   go_ret2
   exact ⟨rfl,h.u⟩
def tRg (k:IntKind):Ty (Int × Int):=tPair (ab k) (ab k)
theorem AG:EI prog 266 298 (.agg #[.int .i64 0,.int .i64 0]) 2 16:=⟨underlying266,by kernel_rfl,rfl,by decide⟩
theorem ma {k:IntKind} {w:World} {S:Nat → Prop} {a b:Int} (e:InK k a) (t:InK k b):(tRg k).rep w S [.int k a,.int k b] (a,b):=⟨_,_,rfl,⟨rfl,e⟩,rfl,t⟩
theorem Sl.rg_at {k:IntKind} {w:World} {S:Nat → Prop} {A:QA} {n e:Nat} {l:List (Int × Int)} (h:Sl (tRg k) w S A n e l) (i:Nat) (hi:i < n) :
  ∃ p b off,l[i]?=some p∧A=some ⟨b,off,none⟩∧S b∧b < w.heap.size∧InK k p.1∧InK k p.2∧w.rangeAt b (off+i*2) [.int k p.1,.int k p.2]:=by
 obtain ⟨x,b,off,xs,f,o,s,r,c,y,d⟩:=h.cells i hi (by show 0 < 2;decide);obtain ⟨_,_,rfl,⟨rfl,t⟩,rfl,a⟩:=c;refine ⟨x,b,off,f,o,s,r,t,a,fun j v m=>?_⟩;have:=d j v m;rw [Nat.add_assoc];exact this
theorem tH {l:List (Int × Int)} {k:Nat} {p:Int × Int} (t:l[k]?=some p) (h:¬ (-2147483648≤p.1∧p.2≤2147483647)):dc l=false:=by
 rw [Bool.eq_false_iff];intro e;unfold dc at e;rw [List.all_eq_true] at e;have:=e p (mG t);rw [Bool.and_eq_true,decide_eq_true_eq,decide_eq_true_eq] at this;exact h this
theorem lH (A:QA) (n a:Nat) (l:List (Int × Int)) (w:World) (i:Sl (tRg .i64) w (blo w) A n a l) :
  Calls prog 171 #[.slice A n a] w fun e w'=>e=.returned (.bool (dc l))∧Below w w w':=by
 have z:n≤9223372036854775807:=lT i.cap_le i.max_le;obtain ⟨D,r⟩:=zh2 i.n_eq (Old.now i);have t:=zW w;clear i;go_in;go_wp2;go_loopw [7] (fun v wr=>∃ k:Nat,k≤n∧v=.int .i64 k∧dc (l.take k)=true∧Below w w wr) (fun v _=>n - (intOf v).toNat)
 case atStart=>exact ⟨0,zl _,rfl,rfl,t.u⟩
 case round =>
  obtain ⟨k,L,rfl,q,j⟩:=hrel;obtain ⟨r,t⟩:=uz2 j r t;have h:=zH q;clear j q;by_cases f:k < n
  ·have M:(k:Int) < (n:Int):=oM;obtain ⟨⟨x,y⟩,d,b,p,rfl,-,-,-,-,B⟩:=r.o.out.rg_at k f;obtain ⟨s,F,g⟩:=zh3 B (bG l k _ p) p;simp only at s;clear B p;obtain ⟨N,I,C,t⟩:=nF t #[.int .i64 x,.int .i64 y] 298;obtain ⟨J,K⟩:=uc2 C 0 1;by_cases c:x < -2147483648
   ·have G:decide (x < -2147483648)=true:=by simpa using c
    go_wp2_with (refine wpList_load_mid rfl 298 (.tmp 9) rfl d (b+k*2) rfl _ _ s.o underlying298 rfl kM ?_)
    go_ret;exact ⟨by rw [tH g.o (by simp only;omega)];rfl,t.u⟩
   have G:decide (x < -2147483648)=false:=by simpa using c
   by_cases m:2147483647 < y
   ·have H:decide (2147483647 < y)=true:=by simpa using m
    go_wp2_with (refine wpList_load_mid rfl 298 (.tmp 9) rfl d (b+k*2) rfl _ _ s.o underlying298 rfl kM ?_)
    go_ret;exact ⟨by rw [tH g.o (by simp only;omega)];rfl,t.u⟩
   have H:decide (2147483647 < y)=false:=by simpa using m
   have E:=zH (show dc (l.take (k+1))=true by rw [F.o,vd,h.o];simp only [Bool.true_and,Bool.and_eq_true,decide_eq_true_eq];omega);clear c m
   go_wp2_with (refine wpList_load_mid rfl 298 (.tmp 9) rfl d (b+k*2) rfl _ _ s.o underlying298 rfl kM ?_)
   exact ⟨⟨k+1,by omega,by go_num,E.o,t.u⟩,by simp [intOf];omega⟩
  ·obtain rfl:k=n:=oM;have e:=D.o;rw [List.take_of_length_le oM] at h;go_wp2;go_ret;exact ⟨by rw [h.o];rfl,t.u⟩
theorem ux (A:QA) (n b:Nat) (l:List (Int × Int)) (w:World) (d:Sl (tRg .i64) w (blo w) A n b l) :
  Calls prog 228 #[.slice A n b] w fun e w'=>e=.returned (.agg #[.int .i64 (ey l).1,.int .i64 (ey l).2])∧Below w w w':=by
 have W:n≤9223372036854775807:=lT d.cap_le d.max_le;obtain ⟨T,I⟩:=zh2 d.n_eq (Old.now d);have t:=zW w;obtain ⟨z,c,a,t⟩:=nF t #[.int .i64 0,.int .i64 0] 298;have l1:=zL c;by_cases U:n=0
 ·subst U;obtain rfl:l=[]:=List.eq_nil_of_length_eq_zero T.o;clear d;go_in
  go_wp2_with (refine sG #[.int .i64 0,.int .i64 0] a.o ?_;intro w3 H M)
  refine ret_cell rfl H rfl underlying298 kM rfl ?_;exact ⟨rfl,(t.o.away M oM).out⟩
 have t0:((n:Int) == 0)=false:=sO;have nh:=Nat.pos_of_ne_zero U;obtain ⟨⟨x,y⟩,K,P,Y,F,-,-,ix,iy,j⟩:=d.rg_at 0 nh;obtain ⟨B0,m⟩:=zh2 (show ey l=eK l (x,y) by unfold ey;rw [gD,Y];rfl) (rW j (show Below w w z by rw [← c];exact (qB _ _).alloc (lR _) _));simp only [Nat.zero_mul,Nat.add_zero] at m;subst F;clear j ix iy Y d;obtain ⟨w2,D,R,B⟩:=nB z #[.int .i64 x,.int .i64 y] 298;obtain ⟨t,a⟩:=uz2 B t a;clear B;have l2:=zL D;go_in
 go_wp2_with (refine wpList_load_mid rfl 298 (.tmp 11) rfl K P rfl _ _ m.o underlying298 rfl kM ?_)
 clear c D m;have S:=zH (grS w2 (some z.heap.size));go_loopw [15] (fun O wr=>∃ k:Nat,k≤n∧O=.int .i64 k∧w2.grownBy wr (some z.heap.size)∧Blk wr z.heap.size 298 #[.int .i64 (eK (l.take k) (x,y)).1,.int .i64 (eK (l.take k) (x,y)).2]) (fun O _=>n - (intOf O).toNat)
 case atStart=>exact ⟨0,zl _,rfl,S.o,R.o⟩
 case round =>
  obtain ⟨k,hk,rfl,f,V⟩:=hrel;have G:=zH f;have zr:=f.size;replace I:=zH ((I.o.fut t.u).away f oM);replace t:=zA f t;replace a:=zA f a;have i:=zH V;clear f V R S;by_cases N:k < n
  ·have p1:(k:Int) < (n:Int):=oM;obtain ⟨⟨u,v⟩,L,Q,X,F,-,-,-,-,j⟩:=I.o.out.rg_at k N;obtain ⟨rfl,rfl⟩:K=L∧P=Q:=by simpa using F
   obtain ⟨m,TS,E⟩:=zh3 j (bG l k _ X) (oK (l.take k) (x,y) (u,v));obtain ⟨⟨p,q⟩,g⟩:∃ r,eK (l.take k) (x,y)=r:=⟨_,rfl⟩;rw [g] at i E;simp only at i E m;obtain ⟨Z,s⟩:∃ r,min p u=r:=⟨_,rfl⟩;obtain ⟨q',h⟩:∃ r,max q v=r:=⟨_,rfl⟩;have mn:(if u < p then u else p)=Z:=by rw [mnI,s]
   have mn9:min p u=Z:=(mnI p u).symm.trans mn
   have mx:(if q < v then v else q)=q':=by rw [mxI,h]
   have mx9:max q v=q':=(mxI q v).symm.trans mx
   rw [s,h] at E;clear j X F g s h;have J:=zW wr;obtain ⟨w3,an,BE,C⟩:=nB wr #[.int .i64 u,.int .i64 v] 298;obtain ⟨i,t,a,J⟩:=uz4 C i t a J;clear C;obtain ⟨c0,c1⟩:=uc2 i 0 1;obtain ⟨e0,e1⟩:=uc2 BE 0 1
   go_wp2_with (first|(refine wpList_load_mid rfl 298 (.tmp 17) rfl K (P+k*2) rfl _ _ m.o underlying298 rfl kM ?_)|(refine sG #[.int .i64 Z,.int .i64 q'] i.o ?_;intro w4 B4 g4))
   exact ⟨⟨k+1,by omega,by go_num,grT G.o (grT (grO J.o.out) g4),by rw [TS.o,E.o];exact B4⟩,by simp [intOf];omega⟩
  ·obtain rfl:k=n:=oM;have e:=T.o;rw [List.take_of_length_le oM] at i
   go_wp2_with (first|(refine lG i.o ?_)|(refine sG #[.int .i64 (eK l (x,y)).1,.int .i64 (eK l (x,y)).2] a.o ?_;intro w3 H M))
   refine ret_cell rfl H rfl underlying298 kM rfl ?_;exact ⟨by rw [B0.o],(t.o.away M oM).out⟩
theorem oH {w bias:List Int} {lo hi z:Int} {gaps:Bool} (e:¬ bias.length=0) (t:w.length % bias.length=0):eU w bias lo hi z gaps=(List.range bias.length).map fun o=>aL (bias.getD o 0) lo hi z gaps (fw w (w.length / bias.length) o):=by
 unfold eU;rw [if_neg (by rintro (h|h);exact e h;exact h t)]
theorem nL {w bias:List Int} {lo hi z:Int} {gaps:Bool} (h:bias.length=0 ∨ ¬ w.length % bias.length=0):eU w bias lo hi z gaps=[]:=by unfold eU;rw [if_pos h]
theorem Dg {w:List Int} {e o:Nat} (h:∀ i,InK .i8 (w.getD i 0)) (i:Nat):InK .i8 ((fw w e o).getD i 0):=by
 unfold fw;rw [gD,List.getElem?_take];split
 ·rw [List.getElem?_drop];have:=h (o*e+i);rwa [gD] at this
 ·decide
theorem nH (d:af) (W:QA) (nw m:Nat) (B:QA) (nb cb:Nat) (lo hi:Int) (w:World) (D:xA w W nw m d.w) (c:xB w B nb cb d.bias) (hz:InK .i8 d.za)
  (R:InK .i8 lo) (Q:InK .i8 hi) (mw:nw≤16384) (mb:nb≤16384) (al:1≤nw) :
  Calls prog 170 #[.agg (nD d W nw m B nb cb),.int .i8 lo,.int .i8 hi] w (RetSl (tRg .i64) w (eU d.w d.bias lo hi d.za (decide (0 < d.p)))):=by
 obtain ⟨HB,HW⟩:=zh2 (Old.now c) (Old.now D);have y:=c.n_eq;have j:=D.n_eq;have f:=zW w;obtain ⟨Z,an,BN,f⟩:=nF f (nD d W nw m B nb cb) 84;have l1:=zL an;obtain ⟨H,I,J,X⟩:=uc4 BN 5 7 9 10;simp only [gX] at H I J X;by_cases h0:nb=0
 ·subst h0;rw [nL (.inl y)];clear D c y j;go_in;go_wp2;go_ret;exact ⟨none,0,0,rfl,Sl.nil _ _ _,f.u⟩
 have z0:(nb:Int) ≠ 0:=oM;have t0:((nb:Int) == 0)=false:=by simpa using h0
 obtain ⟨L,s⟩:∃ x,nw % nb=x:=⟨_,rfl⟩;have r1:(nw:Int).tmod (nb:Int)=(L:Int):=by rw [← s,Int.tmod_eq_emod_of_nonneg oM];simp
 have ay:L < nb:=by rw [← s];exact Nat.mod_lt _ oM
 have r2:IntKind.i64.wrap (L:Int)=(L:Int):=wJ;by_cases h1:L=0;rotate_left
 ·have t1:((L:Int) != 0)=true:=by simpa using h1
  rw [nL (.inr (by rw [y,j,s];exact h1))];clear D c y j;go_in;go_wp2;go_ret;exact ⟨none,0,0,rfl,Sl.nil _ _ _,f.u⟩
 subst h1;obtain ⟨E,F⟩:∃ x,nw / nb=x:=⟨_,rfl⟩;have q1:(nw:Int).tdiv (nb:Int)=(E:Int):=by rw [← F];exact Int.tdiv_eq_ediv_of_nonneg oM
 have q2:(nw:Int) / (nb:Int)=(E:Int):=by rw [← F];simp
 have bt:1≤E:=by rw [← F];exact Nat.div_pos (Nat.le_of_dvd al (Nat.dvd_of_mod_eq_zero s)) oM
 have ba:E≤nw:=by rw [← F];exact Nat.div_le_self _ _
 have q3:IntKind.i64.wrap (E:Int)=(E:Int):=wJ;have AL:=zH (oH (lo:=lo) (hi:=hi) (z:=d.za) (gaps:=decide (0 < d.p)) (show ¬ d.bias.length=0 by rw [y];exact h0) (show d.w.length % d.bias.length=0 by rw [j,y];exact s));rw [y,j,F] at AL;have RL:=zH (fun o (ho:o < nb)=>uh (w:=d.w) (nb:=nb) (o:=o) (by rw [j];exact s) ho);rw [j,F] at RL;obtain ⟨bw,ow,hA,-,-,-,-⟩:=D.int_at 0 oM;subst hA;obtain ⟨HZ,N,M⟩:=zh3 hz R Q;have be:nw≤m:=D.cap_le;have ac:m≤9223372036854775807:=D.max_le;clear D c y j s F hz R Q;go_in;go_wp2_with fail;clear an;go_loopw [8,35] (fun u ii wr=>∃ k:Nat,k≤nb∧ii=.int .i64 k∧Own (tRg .i64) wr (fun _=>False) Z.heap.size 298 u k ((List.range k).map fun o=>aL (d.bias.getD o 0) lo hi d.za (decide (0 < d.p)) (fw d.w E o))∧Below Z Z wr) (fun _ ii _=>nb - (intOf ii).toNat)
 case atStart=>exact ⟨0,zl _,rfl,Own.nil _ _ _ _ _,qB _ _⟩
 case round =>
  obtain ⟨k,hk,rfl,C,A⟩:=hrel;replace HB:=zH ((HB.o.fut f.u).fut A);replace HW:=zH ((HW.o.fut f.u).fut A);obtain ⟨f,BN⟩:=uz2 A f BN;obtain ⟨ON,GG⟩:=zh2 C A;clear A C H I J X;obtain ⟨H,I,J⟩:=uc3 BN 5 7 9;simp only [gX] at H I J;by_cases T:k < nb
  ·have p1:(k:Int) < (nb:Int):=oM;obtain ⟨bz,oz,rfl,-,-,cx,ix⟩:=HB.o.out.int_at k T;obtain ⟨v1,v2⟩:=RL.o k T;obtain ⟨p,hp⟩:∃ p:Nat,k*E=p:=⟨_,rfl⟩;have G:(k:Int)*(E:Int)=(p:Int):=by rw [← hp];simp
   have V:((k:Int)+1)*(E:Int)=(p:Int)+(E:Int):=by rw [Int.add_mul,G];simp
   rw [hp] at v2;have f1:IntKind.i64.wrap ((k:Int)*(E:Int))=(p:Int):=by rw [G];exact wJ
   have f2:IntKind.i64.wrap ((k:Int)+1)=(k:Int)+1:=wJ;obtain ⟨p2,U⟩:∃ x:Nat,p+E=x:=⟨_,rfl⟩;have f3:IntKind.i64.wrap (((k:Int)+1)*(E:Int))=(p2:Int):=by rw [V,← U];exact (wJ).trans sM
   have s1:p≤p2:=oM;have s2:p2≤m:=oM;have s3:p2 - p=E:=oM;have s4:¬ m=p:=oM;have ia:InK .i32 (d.bias.getD k 0):=ix;obtain ⟨x,hx⟩:∃ x,d.bias.getD k 0=x:=⟨_,rfl⟩;rw [hx] at cx ia;obtain ⟨g,A⟩:∃ g,decide (0 < d.p)=g:=⟨_,rfl⟩;obtain ⟨RW,RN,LM⟩:=zh3 (fun w' (ad:xA w' (some ⟨bw,ow,none⟩) nw m d.w)=>vI (some ⟨bw,ow+p,none⟩) E (m - p) (fw d.w E k) x lo hi d.za g w' (by unfold fw;rw [hp];exact ad.sub p E p (m - p) (by simp [ab]) oM oM oM) oM ia N.o M.o HZ.o) (Ce (b:=x) (gaps:=g) (l:=fw d.w E k) N.o M.o HZ.o (Dg (fun i=>HW.o.out.allK i)) ia) (show (List.range (k+1)).map (fun o=>aL (d.bias.getD o 0) lo hi d.za (decide (0 < d.p)) (fw d.w E o))=(List.range k).map (fun o=>aL (d.bias.getD o 0) lo hi d.za (decide (0 < d.p)) (fw d.w E o)) ++ [aL x lo hi d.za g (fw d.w E k)] by rw [List.range_succ,List.map_append,List.map_singleton,hx,A]);obtain ⟨⟨y1,y2⟩,hy⟩:∃ r,aL x lo hi d.za g (fw d.w E k)=r:=⟨_,rfl⟩;rw [hy] at RW RN LM;simp only at RW RN LM;have IY:=zH (show InK .i64 y1∧InK .i64 y2 by have:=RN.o;rw [v1] at this;rw [ai,ai];omega);clear ix hx hy G V v1 RN U v2
   go_upto_region 8 with fail
   (try simp only [Act.put])
   have O:=zH (ON.o.heap (w':=wr.drew) rfl);refine wp_region_held_drew (S:=fun w'=>w'.cell? ⟨w.heap.size,5,none⟩=some (.int .i64 d.p)∧w'.cell? ⟨w.heap.size,7,none⟩=some (.int .i8 d.za)∧w'.cell? ⟨w.heap.size,9,none⟩=some (.slice (some ⟨bw,ow,none⟩) nw m)∧Below Z Z w') kM ?_ (fun a=>?_)
   ·exact ⟨H,I,J,GG.o.drew⟩
   refine kH' 0 a ?_;refine kH' 1 a ?_;refine kH' 2 a ?_;refine kH' 3 a ?_;refine kH' 4 a ?_;refine kH' 5 a ?_;refine kH' 6 a ?_;refine kH' 7 a ?_;refine kH' 8 a ?_;refine kH' 9 a ?_;refine kH' 10 a ?_;refine kH' 11 a ?_;refine kH' 12 a ?_;refine kH' 13 a ?_;refine kH' 14 a ?_;refine kH' 15 a ?_;refine kH' 16 a ?_;refine kH' 17 a ?_;refine wpAnyH_take (i:=18) (v:=.bool g) rfl (by as_aux_lemma=>kernel_rfl) (by as_aux_lemma=>kernel_rfl) (by as_aux_lemma=>kernel_rfl) (fun _ _ _ h=>h) (Or.inl ⟨by rfl,?_⟩) a ?_
   ·intro w ah;(try dsimp only at ah);go_simp;first|done|rw [A]
   try simp only [pX]
   refine rH 19 rfl (fun K q=>?_);go_simp;refine qM (RW.o _ ((HW.o.draw).all)) fun wa c=>?_;replace O:=zH (O.o.below c (lR _) (fun _ h=>h.elim));refine xK q (zR c a) fun a=>?_;clear q K;refine rH 20 rfl (fun K q=>?_);go_simp;have c:Below wa wa (wa.alloc (.cells #[.int .i64 y1,.int .i64 y2] 298)):=(qB _ _).alloc (lR _) _;have n:=a;refine xK q (zR c a) fun a=>?_;clear q K;refine rH 21 rfl (fun K q=>?_)
   (rw [if_pos (by rfl)];refine iT (t:=tRg .i64) (.tmp 40) (.tmp 60) rfl AG rfl O.o 1 rfl (y1,y2) (ma IY.o.1 IY.o.2) mL oM n.2.2.2.size (fun b c=>c.elim) ?_;intro v1 w2 Y P ax;have ne:some w.heap.size ≠ u8.ownBlock:=fun e=>absurd (O.o.lt _ e.symm).1 (Nat.not_le.2 l1);refine q.out _ _ ⟨cM P n.1 ne,cM P n.2.1 ne,cM P n.2.2.1 ne,n.2.2.2.grown P n.2.2.2.size (fun k h=>(O.o.lt k h).1)⟩ (fun a=>?_))
   clear q K;try simp only [pX]
   refine kH' 22 a ?_;refine wpAnyH_done kM ?_ _;have HG:=zH a.2.2.2;clear a n c H I J P;go_wp2;exact ⟨⟨k+1,by omega,by go_num,by rw [LM.o];exact Y,HG.o⟩,by simp [intOf];omega⟩
  ·obtain rfl:k=nb:=oM;obtain ⟨A2,c2,rfl,sl⟩:=ON.o.sl (S':=bin w wr) (by show 0 < 2;decide) (fun b h1 h2=>⟨by omega,h2⟩) (fun _ h=>h.elim);have SL:=zH sl;clear sl ON;go_wp2;go_ret;rw [AL.o];exact ⟨A2,_,c2,rfl,SL.o,f.u⟩
theorem io (a:Int) (A:QA) (n d:Nat) (l:List Int) (w:World) (c:Sl (ab .i64) w (blo w) A n d l) :
  Calls prog 168 #[.int .i64 a,.slice A n d] w fun e w'=>e=.returned (.tuple #[.int .i64 (ofR a l).1,.int .i64 (ofR a l).2])∧w=w':=by
 have g:n≤9223372036854775807:=lT c.cap_le c.max_le;obtain ⟨b,z⟩:=zh2 c.n_eq c;clear c;go_in;go_wp2;go_loopw [6,7,14] (fun u v y wr=>∃ k:Nat,k≤n∧y=.int .i64 k∧u=.int .i64 (ofR a (l.take k)).1∧v=.int .i64 (ofR a (l.take k)).2∧w=wr) (fun _ _ y _=>n - (intOf y).toNat)
 case atStart=>exact ⟨0,zl _,rfl,rfl,rfl,rfl⟩
 case round =>
  obtain ⟨k,F,rfl,rfl,rfl,rfl⟩:=hrel;by_cases f:k < n
  ·have J:(k:Int) < (n:Int):=oM;obtain ⟨E,I,rfl,-,-,B,-⟩:=z.o.int_at k f;have m:=zH (bG l k (l.getD k 0) (by rw [gD,List.getElem?_eq_getElem (by have:=b.o;omega)];rfl));obtain ⟨x,j⟩:∃ x,l.getD k 0=x:=⟨_,rfl⟩;rw [j] at B m;have h:=zH (nX a (l.take k) x);obtain ⟨⟨p,q⟩,i⟩:∃ r,ofR a (l.take k)=r:=⟨_,rfl⟩;rw [i] at h;simp only [i] at h ⊢;obtain ⟨C,t⟩:∃ r,min p x=r:=⟨_,rfl⟩;obtain ⟨D,s⟩:∃ r,max q x=r:=⟨_,rfl⟩;have G:(if x < p then x else p)=C:=by rw [mnI,t]
   have G9:min p x=C:=(mnI p x).symm.trans G
   have H:(if q < x then x else q)=D:=by rw [mxI,s]
   have H9:max q x=D:=(mxI q x).symm.trans H
   rw [t,s] at h;clear j i t s;go_wp2;exact ⟨⟨k+1,by omega,by go_num,by rw [m.o,h.o],by rw [m.o,h.o],by trivial⟩,by simp [intOf];omega⟩
  ·obtain rfl:k=n:=oM;have e:=b.o;rw [List.take_of_length_le oM];go_wp2_with fail
   go_ret2
   exact ⟨rfl,by trivial⟩
theorem yv (a:Int) (A:QA) (n d:Nat) (l:List Int) (w:World) (c:xA w A n d l) :
  Calls prog 229 #[.int .i8 a,.slice A n d] w fun e w'=>e=.returned (.tuple #[.int .i8 (ofR a l).1,.int .i8 (ofR a l).2])∧w=w':=by
 have g:n≤9223372036854775807:=lT c.cap_le c.max_le;obtain ⟨b,z⟩:=zh2 c.n_eq c;clear c;go_in;go_wp2;go_loopw [6,7,14] (fun u v y wr=>∃ k:Nat,k≤n∧y=.int .i64 k∧u=.int .i8 (ofR a (l.take k)).1∧v=.int .i8 (ofR a (l.take k)).2∧w=wr) (fun _ _ y _=>n - (intOf y).toNat)
 case atStart=>exact ⟨0,zl _,rfl,rfl,rfl,rfl⟩
 case round =>
  obtain ⟨k,F,rfl,rfl,rfl,rfl⟩:=hrel;by_cases f:k < n
  ·have J:(k:Int) < (n:Int):=oM;obtain ⟨E,I,rfl,-,-,B,-⟩:=z.o.int_at k f;have m:=zH (bG l k (l.getD k 0) (by rw [gD,List.getElem?_eq_getElem (by have:=b.o;omega)];rfl));obtain ⟨x,j⟩:∃ x,l.getD k 0=x:=⟨_,rfl⟩;rw [j] at B m;have h:=zH (nX a (l.take k) x);obtain ⟨⟨p,q⟩,i⟩:∃ r,ofR a (l.take k)=r:=⟨_,rfl⟩;rw [i] at h;simp only [i] at h ⊢;obtain ⟨C,t⟩:∃ r,min p x=r:=⟨_,rfl⟩;obtain ⟨D,s⟩:∃ r,max q x=r:=⟨_,rfl⟩;have G:(if x < p then x else p)=C:=by rw [mnI,t]
   have G9:min p x=C:=(mnI p x).symm.trans G
   have H:(if q < x then x else q)=D:=by rw [mxI,s]
   have H9:max q x=D:=(mxI q x).symm.trans H
   rw [t,s] at h;clear j i t s;go_wp2;exact ⟨⟨k+1,by omega,by go_num,by rw [m.o,h.o],by rw [m.o,h.o],by trivial⟩,by simp [intOf];omega⟩
  ·obtain rfl:k=n:=oM;have e:=b.o;rw [List.take_of_length_le oM];go_wp2_with fail
   go_ret2
   exact ⟨rfl,by trivial⟩
theorem lE (lo hi:Int) (w:World) :
  Calls prog 129 #[.agg #[.int .i8 lo,.int .i8 hi]] w fun e w'=>e=.returned (.bool (decide (hi < lo)))∧Below w w w':=by
 have t:=zW w;obtain ⟨s,o,a,t⟩:=nF t #[.int .i8 lo,.int .i8 hi] 201;obtain ⟨i,n⟩:=uc2 a 0 1;go_in;go_wp2;go_ret;exact ⟨rfl,t.u⟩
theorem yG (a:Int) (A:QA) (n t:Nat) (l:List Int) (w:World) (h:xA w A n t l) :
  Calls prog 200 #[.int .i8 a,.slice A n t] w fun e w'=>e=.returned (.agg #[.int .i8 (ofR a l).1,.int .i8 (ofR a l).2])∧Below w w w':=by
 have c:=zH (Old.now h);have s:=zW w;obtain ⟨y,i,d,s⟩:=nF s #[.int .i8 0,.int .i8 0] 201;have f:=zL i;clear h;go_in
 go_wp2_with (first|(go_at_call 229;refine (yv a A n t l _ (c.o.fut s.u).all).mono ?_;rintro e p ⟨rfl,rfl⟩;clear i)|(refine sG #[.int .i8 (ofR a l).1,.int .i8 (ofR a l).2] d.o ?_;intro v r m))
 refine ret_cell rfl r rfl underlying201 kM rfl ?_;exact ⟨rfl,(s.o.away m oM).out⟩
def jl (d:af) (lo hi:Int):(Int × Int) × Int :=
 if dc (eU d.w d.bias lo hi d.za (decide (0 < d.p)))=true then (d8 (ey (eU d.w d.bias lo hi d.za (decide (0 < d.p)))) d.qm d.qs d.qz d.lo d.hi,0) else ((0,0),10)
theorem Cp (d:af) (lo hi:Int):InK .i8 (jl d lo hi).1.1∧InK .i8 (jl d lo hi).1.2:=by
 unfold jl;split
 ·exact qJ _ _ _ _ _ _
 ·exact ⟨by decide,by decide⟩
def sS (x:(Int × Int) × Int) (w:World) (e:Ending) (w':World):Prop:=e=.returned (.tuple #[.agg #[.int .i8 x.1.1,.int .i8 x.1.2],.int .i64 x.2])∧Below w w w'
theorem uZ (d:af) (W:QA) (nw F:Nat) (B:QA) (nb cb:Nat) (lo hi:Int) (w:World) (G:xA w W nw F d.w) (i:xB w B nb cb d.bias) (m:aQ d)
  (k:InK .i8 lo) (g:InK .i8 hi) (mw:nw≤16384) (mb:nb≤16384) (P:1≤nw) :
  Calls prog 199 #[.agg (nD d W nw F B nb cb),.agg #[.int .i8 lo,.int .i8 hi]] w (sS (jl d lo hi) w):=by
 obtain ⟨H,HB,HW⟩:=zh3 (fun w G i=>nH d W nw F B nb cb lo hi w G i m.za k g mw mb P) (Old.now i) (Old.now G);have t:=zW w;have U:=zH (fun a b w=>ss a b d.qm d.qs d.qz d.lo d.hi w m.qm m.qz m.lo m.hi);obtain ⟨r,z⟩:∃ r,jl d lo hi=r:=⟨_,rfl⟩;rw [z];unfold jl at z;obtain ⟨L,Y⟩:∃ L,eU d.w d.bias lo hi d.za (decide (0 < d.p))=L:=⟨_,rfl⟩;rw [Y] at H z;have h:=zH z.symm;clear G i m k g z Y;obtain ⟨w1,w2,w3,Q,R,S,l1,l2,l3,s,J,n,C⟩:=bk3 w (nD d W nw F B nb cb) 84 #[.int .i8 lo,.int .i8 hi] 201 #[.int .i8 0,.int .i8 0] 201;replace t:=zF C t;clear C;obtain ⟨a0,a1⟩:=uc2 J 0 1;go_in
 go_wp2_with (refine lG s.o ?_)
 clear Q R S a0 a1;refine (H.o _ (HW.o.fut t.u).all (HB.o.fut t.u).all).mono ?_;rintro e w4 ⟨T,Z,X,rfl,s2,i⟩;have f:=zH (Old.now s2.old);clear s2 H;obtain ⟨t,s,J,n⟩:=uz4 i t s J n;clear i;obtain ⟨ok,O⟩:∃ b,dc L=b:=⟨_,rfl⟩;have E:=zH (fun w hs=>lH T Z X L w hs);rw [O] at E h;cases ok with
 | false =>
  rw [if_neg dM] at h
  go_wp2_with (first|(go_at_call 171;refine qM (E.o _ f.o.all) fun l i=>?_;obtain ⟨t,n⟩:=uz2 i t n;clear i)|(refine sG #[.int .i8 0,.int .i8 0] n.o ?_;intro w6 I N))
  refine rG I ?_;exact ⟨by rw [h.o];rfl,(t.o.away N oM).out⟩
 | true =>
  rw [if_pos rfl] at h
  go_wp2_with (go_at_call 171;refine qM (E.o _ f.o.all) fun l i=>?_;obtain ⟨t,n,s,f⟩:=uz4 i t n s f;clear i)
  have c:=zH (fun x:Ext l=>aB x (ux T Z X L x.1 (f.o.all.later x.2 (lR _))));obtain ⟨⟨p,q⟩,j⟩:∃ r,ey L=r:=⟨_,rfl⟩;rw [j] at c h;simp only at c;obtain ⟨D,AI⟩:=zh2 (fun x:Ext l=>aB x (U.o p q x.1)) (qJ (p,q) d.qm d.qs d.qz d.lo d.hi);obtain ⟨⟨u,v⟩,A⟩:∃ r,d8 (p,q) d.qm d.qs d.qz d.lo d.hi=r:=⟨_,rfl⟩;rw [A] at D h AI;simp only at D;have V:=zH (fun x:Ext l=>aq (off:=11) (vs:=[.int .i32 d.qm,.int .i64 d.qs,.int .i8 d.qz]) (s.o.ext x) rfl);have K:∀ x:Ext l,x.1.cell? ⟨w.heap.size,17,none⟩=some (.int .i8 d.lo):=fun x=>(s.o.ext x).cell 17;have M:∀ x:Ext l,x.1.cell? ⟨w.heap.size,18,none⟩=some (.int .i8 d.hi):=fun x=>(s.o.ext x).cell 18;clear j A E U;refine am l kM kM (qB _ _) ?_;go_big_quiet_step (first|exact c.o _);go_big_quiet_step (first|exact c.o _);go_big_quiet_step (first|exact c.o _);refine aj kM 82 (.tmp 22) rfl w.heap.size 11 rfl _ _ (by rintro _ ⟨x,rfl⟩;exact V.o x) underlying82 rfl kM ?_;simp only [pX];repeat (go_big_quiet_step (exact D.o _))
  refine wpQuiet_nil ?_;rintro _ ⟨⟨wa,y⟩,rfl⟩;obtain ⟨t,n⟩:=uz2 y t n;clear y c D V K M
  go_wp2_with (refine sG #[.int .i8 u,.int .i8 v] n.o ?_;intro w6 I N)
  refine rG I ?_;exact ⟨by rw [h.o];rfl,(t.o.away N oM).out⟩
open Fx
def dK (d:af) (x y:Int):Int:=w8 (gY (dr ((x - d.za)*d.qm) d.qs+dr ((y - d.zb)*d.rm) d.rs+d.qz) d.lo d.hi)
theorem nV (d:af) (x y:Int):InK .i8 (dK d x y):=sR _
def kZ (d:af):Bool:=aD d.qm d.qs && aD d.rm d.rs
theorem sJ {a b m:Int} (e:InK .i8 a) (t:InK .i8 b) (o:InK .i32 m):((a - b)*m).natAbs≤547608330240:=by
 rw [bj] at e t;rw [cE] at o;exact lT (natAbs_mul_le (m:=255) (n:=2147483648) oM oM) dM
theorem mX (d:af) (W:QA) (nw f:Nat) (B:QA) (nb cb:Nat) (w:World) :
  Calls prog 152 #[.agg (nD d W nw f B nb cb)] w fun e w'=>e=.returned (.bool (kZ d))∧Below w w w':=by
 obtain ⟨n,m⟩:=zh2 (fun w=>dO d.qm d.qs d.qz w) (fun w=>dO d.rm d.rs d.rz w);have a:=zW w;obtain ⟨b,c,t,a⟩:=nF a (nD d W nw f B nb cb) 84;unfold kZ;obtain ⟨q,y⟩:∃ q,aD d.qm d.qs=q:=⟨_,rfl⟩;obtain ⟨r,p⟩:∃ r,aD d.rm d.rs=r:=⟨_,rfl⟩;rw [y] at n ⊢;rw [p] at m ⊢;clear y p;cases q with
 | false =>
  go_in
  go_wp2_with (first|(refine lP 82 #[.int .i32 d.qm,.int .i64 d.qs,.int .i8 d.qz] t.o ?_)|(go_at_call 138;refine qM (n.o _) fun v i=>?_))
  go_ret;exact ⟨rfl,(a.o.fut i).out⟩
 | true =>
  go_in
  go_wp2_with (first|(refine lP 82 #[.int .i32 d.qm,.int .i64 d.qs,.int .i8 d.qz] t.o ?_)|(refine lP 82 #[.int .i32 d.rm,.int .i64 d.rs,.int .i8 d.rz] t.o ?_)|(go_at_call 138;first|(with_reducible refine (n.o _).mono ?_;rintro e v ⟨rfl,i⟩;obtain ⟨a,t⟩:=uz2 i a t;clear i c;obtain ⟨s,h,l⟩:=uc3 t 14 15 16;simp only [gX] at s h l)|(with_reducible refine (m.o _).mono ?_;rintro e g ⟨rfl,i⟩)))
  go_ret;exact ⟨by cases r <;> rfl,(a.o.fut i).out⟩
theorem kD (x t m s z:Int) (w:World) (n:InK .i8 x) (h:InK .i8 t) (i:InK .i32 m) :
  Calls prog 187 #[.int .i8 x,.int .i8 t,.agg #[.int .i32 m,.int .i64 s,.int .i8 z]] w fun e w'=>e=.returned (.int .i64 (dr ((x - t)*m) s))∧Below w w w':=by
 rw [bj] at n h;obtain ⟨b,g⟩:=n;obtain ⟨k,j⟩:=h;have d:=zH (fun w=>rq (x - t) m s w (by rw [cE];omega) i);have a:=zW w;obtain ⟨p,c,r,a⟩:=nF a #[.int .i32 m,.int .i64 s,.int .i8 z] 82;obtain ⟨f,y⟩:=uc2 r 0 1;clear i;go_in
 go_wp2_with (go_at_call 217;refine qM (d.o _) fun v l=>?_)
 go_ret;exact ⟨rfl,(a.o.fut l).out⟩
theorem ko (x y:Int) (d:af) (W:QA) (nw c:Nat) (B:QA) (nb cb:Nat) (w:World) (m:InK .i8 x) (f:InK .i8 y) (i:aQ d) (A:kZ d=true) :
  Calls prog 154 #[.int .i8 x,.int .i8 y,.agg (nD d W nw c B nb cb)] w fun e w'=>e=.returned (.int .i8 (dK d x y))∧Below w w w':=by
 have H:=gN _ d.qs _ (sJ m i.za i.qm);have I:=gN _ d.rs _ (sJ f i.zb i.rm);have v:=zH (fun w=>mX d W nw c B nb cb w);rw [A] at v;obtain ⟨b,g⟩:=zh2 (fun w=>kD x d.za d.qm d.qs d.qz w m i.za i.qm) (fun w=>kD y d.zb d.rm d.rs d.rz w f i.zb i.rm);unfold dK;obtain ⟨s,k⟩:∃ r,dr ((x - d.za)*d.qm) d.qs=r:=⟨_,rfl⟩;obtain ⟨l,j⟩:∃ r,dr ((y - d.zb)*d.rm) d.rs=r:=⟨_,rfl⟩;rw [k] at b H ⊢;rw [j] at g I ⊢;have C:=i.qz;rw [bj] at C;obtain ⟨z1,z2⟩:=C;have U:IntKind.i64.wrap (s+l)=s+l:=wJ;have V:IntKind.i64.wrap d.qz=d.qz:=wJ;have X:IntKind.i64.wrap (s+l+d.qz)=s+l+d.qz:=wJ;have D:=zH (fun w=>qN (s+l+d.qz) d.lo d.hi w i.lo i.hi);have n:=zW w;obtain ⟨Y,p,a,n⟩:=nF n (nD d W nw c B nb cb) 84;clear k j A m f i;go_in
 go_wp2_with (first|(refine lG a.o ?_)|(go_at_call 152;refine qM (v.o _) fun t z=>?_;obtain ⟨n,a⟩:=uz2 z n a;clear z p))
 have S:∀ q:Ext t,q.1.cell? ⟨w.heap.size,7,none⟩=some (.int .i8 d.za):=fun q=>(a.o.ext q).cell 7;have T:∀ q:Ext t,q.1.cell? ⟨w.heap.size,8,none⟩=some (.int .i8 d.zb):=fun q=>(a.o.ext q).cell 8;have J:∀ q:Ext t,q.1.cell? ⟨w.heap.size,11,none⟩=some (.int .i32 d.qm):=fun q=>(a.o.ext q).cell 11;have K:∀ q:Ext t,q.1.cell? ⟨w.heap.size,12,none⟩=some (.int .i64 d.qs):=fun q=>(a.o.ext q).cell 12;have L:∀ q:Ext t,q.1.cell? ⟨w.heap.size,13,none⟩=some (.int .i8 d.qz):=fun q=>(a.o.ext q).cell 13;have M:∀ q:Ext t,q.1.cell? ⟨w.heap.size,14,none⟩=some (.int .i32 d.rm):=fun q=>(a.o.ext q).cell 14;have N:∀ q:Ext t,q.1.cell? ⟨w.heap.size,15,none⟩=some (.int .i64 d.rs):=fun q=>(a.o.ext q).cell 15;have O:∀ q:Ext t,q.1.cell? ⟨w.heap.size,16,none⟩=some (.int .i8 d.rz):=fun q=>(a.o.ext q).cell 16;have P:∀ q:Ext t,q.1.cell? ⟨w.heap.size,17,none⟩=some (.int .i8 d.lo):=fun q=>(a.o.ext q).cell 17;have Q:∀ q:Ext t,q.1.cell? ⟨w.heap.size,18,none⟩=some (.int .i8 d.hi):=fun q=>(a.o.ext q).cell 18;obtain ⟨E,F,G⟩:=zh3 (fun q:Ext t=>aB q (b.o q.1)) (fun q:Ext t=>aB q (g.o q.1)) (fun q:Ext t=>aB q ((D.o q.1).mono (fun e w' h=>⟨h.1,by rw [← h.2];exact qB _ _⟩)));refine am t kM kM (qB _ _) ?_;repeat (go_big_quiet_step (first|(with_reducible exact E.o _)|(with_reducible exact F.o _)|(with_reducible exact G.o _)))
 refine wpQuiet_nil ?_;rintro _ ⟨⟨Z,R⟩,rfl⟩;go_wp2;go_ret;exact ⟨rfl,(n.o.fut R).out⟩
theorem me (x y:Int) (d:af) (W:QA) (nw O:Nat) (B:QA) (nb cb:Nat) (w:World) (D:InK .i8 x) (E:InK .i8 y) (a:aQ d) (f:kZ d=true) :
  Calls prog 125 #[.int .i8 x,.int .i8 y,.agg (nD d W nw O B nb cb)] w fun e w'=>e=.returned (.int .i8 (dK d x y))∧Below w w w':=by
 have F:=sJ D a.za a.qm;have G:=sJ E a.zb a.rm;have q:=gN _ d.qs _ F;have z:=gN _ d.rs _ G;obtain ⟨K,L⟩:=zh2 (fun w=>fj d.qm d.qs d.qz w) (fun w=>fj d.rm d.rs d.rz w);unfold kZ at f;simp only [Bool.and_eq_true] at f;rw [f.1] at K;rw [f.2] at L;unfold dK;obtain ⟨k,k1⟩:∃ r,(x - d.za)*d.qm=r:=⟨_,rfl⟩;obtain ⟨j,k2⟩:∃ r,(y - d.zb)*d.rm=r:=⟨_,rfl⟩;rw [k1] at q F ⊢;rw [k2] at z G ⊢;obtain ⟨M,N⟩:=zh2 (fun w=>ll k d.qs w (by rw [ai];omega)) (fun w=>ll j d.rs w (by rw [ai];omega));obtain ⟨H,P⟩:∃ r,dr k d.qs=r:=⟨_,rfl⟩;obtain ⟨I,Q⟩:∃ r,dr j d.rs=r:=⟨_,rfl⟩;rw [P] at M q ⊢;rw [Q] at N z ⊢;have R:=a.qz;have b:=a.za;have g:=a.zb;have m:=a.lo;have c:=a.hi;have p:=a.qm;have v:=a.rm;rw [bj] at R b g m c D E;rw [cE] at p v;obtain ⟨z1,z2⟩:=R;obtain ⟨z3,z4⟩:=b;obtain ⟨z5,z6⟩:=g;obtain ⟨z7,z8⟩:=m;obtain ⟨z9,ay⟩:=c;obtain ⟨y1,y2⟩:=D;obtain ⟨y3,y4⟩:=E;obtain ⟨y5,y6⟩:=p;obtain ⟨y7,y8⟩:=v;have S:-547608330240≤k∧k≤547608330240:=oM;have T:-547608330240≤j∧j≤547608330240:=oM;have U:-547608330240≤H∧H≤547608330240:=oM;have V:-547608330240≤I∧I≤547608330240:=oM;obtain ⟨S,ah⟩:=S;obtain ⟨T,ad⟩:=T;obtain ⟨U,al⟩:=U;obtain ⟨V,ac⟩:=V;clear F G q z P Q f a;have X:=zH (fun w=>rd (H+I+d.qz) d.lo d.hi w);have i:=zW w;obtain ⟨w1,J,t,i⟩:=nF i (nD d W nw O B nb cb) 84;go_in
 go_wp2_with (first|(refine lP 82 #[.int .i32 d.qm,.int .i64 d.qs,.int .i8 d.qz] t.o ?_)|(refine lP 82 #[.int .i32 d.rm,.int .i64 d.rs,.int .i8 d.rz] t.o ?_)|(go_at_call 98;first|(with_reducible refine (K.o _).mono ?_;rintro e w2 ⟨rfl,n⟩;obtain ⟨i,t⟩:=uz2 n i t;clear n;obtain ⟨s,h,l⟩:=uc3 t 14 15 16;simp only [gX] at s h l)|(with_reducible refine (L.o _).mono ?_;rintro e w3 ⟨rfl,n⟩;obtain ⟨i,t⟩:=uz2 n i t;clear n s h l J;obtain ⟨c7,A,C⟩:=uc3 t 7 11 12)))
 go_wp2_with (go_at_call 166;with_reducible refine (M.o _).mono ?_;rintro e w4 ⟨rfl,n⟩;obtain ⟨i,t⟩:=uz2 n i t;clear n c7 A C;obtain ⟨c8,s,h⟩:=uc3 t 8 14 15)
 go_wp2_with (go_at_call 166;with_reducible refine (N.o _).mono ?_;rintro e w5 ⟨rfl,n⟩;obtain ⟨i,t⟩:=uz2 n i t;clear n c8 s h;obtain ⟨Y,Z,an⟩:=uc3 t 13 17 18)
 go_wp2_with (go_at_call 167;refine (X.o _).mono ?_;rintro e w6 ⟨rfl,rfl⟩)
 go_ret;exact ⟨rfl,i.u⟩
end Go.Proofs.YtbecbfpoahhpnaaGreat
