/- Between which numbers lies what a node makes (layer 32): guard.Node. -/
import Derived.Test.YtbecbfpoahhpnaaGreatJ25
set_option linter.unusedVariables false
set_option linter.unusedSimpArgs false
set_option maxRecDepth 100000
set_option maxHeartbeats 16000000
namespace Go.Proofs.YtbecbfpoahhpnaaGreat
open Go.RowKit Go.ChangeShapes Go.WideShapes Tryz
def eM (d:af) (a b:Int × Int):(Int × Int) × Int :=
 if bu d ≠ 0 then ((0,0),bu d) else if a.2 < a.1 ∨ (d.kind=6∧b.2 < b.1) then ((0,0),2)
 else if bk d.kind=true then jl d a.1 a.2 else if d.kind=6 then ((dK d a.1 b.1,dK d a.2 b.2),0) else if d.kind=7 then ((fU d a.1,fU d a.2),0)
 else if d.kind=8∧0 < d.p then ((min a.1 d.za,max a.2 d.za),0) else (a,0)
theorem qL {d:af} (h:bu d=0) (a:d.kind=6):kZ d=true:=by
 unfold bu at h;rw [a] at h;rw [if_neg dM] at h;split at h
 ·cases h
 split at h
 ·cases h
 rename_i q;unfold kZ;rw [Bool.and_eq_true];by_cases e:aD d.qm d.qs=true
 ·by_cases t:aD d.rm d.rs=true
  ·exact ⟨e,t⟩
  ·exact absurd (Or.inr ⟨rfl,by simpa using t⟩) q
 ·exact absurd (Or.inl ⟨rfl,by simpa using e⟩) q
theorem Bs {d:af} {a b:Int × Int} (e:InK .i8 a.1∧InK .i8 a.2) (o:InK .i8 b.1∧InK .i8 b.2) (t:aQ d):InK .i8 (eM d a b).1.1∧InK .i8 (eM d a b).1.2:=by
 unfold eM;split
 ·exact ⟨show InK .i8 0 by decide,show InK .i8 0 by decide⟩
 split
 ·exact ⟨show InK .i8 0 by decide,show InK .i8 0 by decide⟩
 split
 ·exact Cp _ _ _
 split
 ·exact ⟨nV _ _ _,nV _ _ _⟩
 split
 ·exact ⟨qf _ _,qf _ _⟩
 split
 ·have:=t.za;simp only [bj] at *;omega
 ·exact e
theorem rO (d:af) (W:QA) (nw G:Nat) (B:QA) (nb cb:Nat) (g v q j:Int) (w:World) (Q:xA w W nw G d.w) (t:xB w B nb cb d.bias) (X:aQ d)
  (J:InK .i8 g) (I:InK .i8 v) (ad:InK .i8 q) (an:InK .i8 j) (mw:nw≤16384) (mb:nb≤16384) (ay:bk d.kind=true → 1≤nw) :
  Calls prog 169 #[.agg (nD d W nw G B nb cb),.agg #[.int .i8 g,.int .i8 v],.agg #[.int .i8 q,.int .i8 j]] w (sS (eM d (g,v) (q,j)) w):=by
 obtain ⟨CK,SM,N,J1,J2,MY,A1,A2⟩:=zh8 (fun w Q t=>kY d W nw G B nb cb w Q t oM oM) (fun w Q t h1=>uZ d W nw G B nb cb g v w Q t X J I mw mb h1) (fun w=>fI d.kind w) (fun hm w=>ko g q d W nw G B nb cb w J ad X hm) (fun hm w=>ko v j d W nw G B nb cb w I an X hm) (qL (d:=d)) (fun w=>kL g d W nw G B nb cb w J X) (fun w=>kL v d W nw G B nb cb w I X);obtain ⟨O,U2,OV,OI,HB,HW,H1⟩:=zh7 (fun w=>lE g v w) (fun w=>lE q j w) (fun A w M=>yG d.za A 2 2 [g,v] w M) (And.intro J I) (Old.now t) (Old.now Q) ay;have a:=zW w;obtain ⟨r,hr⟩:∃ r,eM d (g,v) (q,j)=r:=⟨_,rfl⟩;rw [hr];unfold eM at hr;obtain ⟨ck,ac⟩:∃ c,bu d=c:=⟨_,rfl⟩;rw [ac] at CK hr MY;have l:=zH hr.symm;try simp only at l
 clear Q t X J I ad an ay hr ac;obtain ⟨w1,Y,w3,w4,bn,bs,br,bd,l1,l2,l3,l4,n,s,f,i,be⟩:=bk4 w (nD d W nw G B nb cb) 84 #[.int .i8 g,.int .i8 v] 201 #[.int .i8 q,.int .i8 j] 201 #[.int .i8 0,.int .i8 0] 201;replace a:=zF be a;clear be;go_in
 go_wp2_with (refine lG n.o ?_)
 clear bn bs br bd;refine qM (CK.o _ (HW.o.fut a.u).all (HB.o.fut a.u).all) fun w5 t=>?_;obtain ⟨a,n,s,f,i⟩:=uz5 t a n s f i;clear t;by_cases c1:ck=0;rotate_left
 ·have t1:(ck != 0)=true:=by simpa using c1
  rw [if_pos c1] at l;clear c1
  go_wp2_with (refine sG #[.int .i8 0,.int .i8 0] i.o ?_;intro R k z)
  refine rG k ?_;exact ⟨by rw [l.o] <;> rfl,(a.o.away z oM).out⟩
 subst c1;have t1:((0:Int) != 0)=false:=rfl;rw [if_neg dM] at l;have k0:=n.o.cell 0;simp only [gX] at k0;by_cases F:v < g
 ·have t2:decide (v < g)=true:=by simpa using F
  rw [if_pos (.inl F)] at l;clear F
  go_wp2_with (first|(refine lG s.o ?_)|(go_at_call 129;with_reducible refine (O.o _).mono ?_;rintro e E ⟨rfl,t⟩;obtain ⟨a,n,s,f,i⟩:=uz5 t a n s f i;clear t)|(refine sG #[.int .i8 0,.int .i8 0] i.o ?_;intro R k z))
  refine rG k ?_;exact ⟨by rw [l.o] <;> rfl,(a.o.away z oM).out⟩
 have t2:decide (v < g)=false:=by simpa using F
 have S:=Int.not_lt.1 F;by_cases L:d.kind=6
 ·have t6:(d.kind == 6)=true:=by simp [L]
  by_cases c3:j < q
  ·have t3:decide (j < q)=true:=by simpa using c3
   rw [if_pos (.inr ⟨L,c3⟩)] at l;clear F c3 S L
   go_wp2_with (first|(refine lG s.o ?_)|(refine bU kM 201 (.tmp 5) rfl Y.heap.size 0 rfl _ _ (aq (vs:=[.int .i8 q,.int .i8 j]) f.o rfl) underlying201 rfl kM ?_)|(go_at_call 129;with_reducible refine (O.o _).mono ?_;rintro e E ⟨rfl,t⟩;obtain ⟨a,n,s,f,i⟩:=uz5 t a n s f i;clear t;have k0:=n.o.cell 0;simp only [gX] at k0)|(go_at_call 129;with_reducible refine (U2.o _).mono ?_;rintro e Z ⟨rfl,t⟩;obtain ⟨a,n,s,f,i⟩:=uz5 t a n s f i;clear t;have k0:=n.o.cell 0;simp only [gX] at k0)|(refine sG #[.int .i8 0,.int .i8 0] i.o ?_;intro R k z))
   refine rG k ?_;exact ⟨by rw [l.o] <;> rfl,(a.o.away z oM).out⟩
  have t3:decide (j < q)=false:=by simpa using c3
  have MM:=zH (MY.o rfl L);have sk:bk d.kind=false:=by rw [L];rfl
  rw [if_neg (show ¬ (v < g ∨ (d.kind=6∧j < q)) by omega)] at l;rw [sk,if_neg dM,if_pos L] at l;rw [sk] at N;replace J1:=zH (J1.o MM.o);replace J2:=zH (J2.o MM.o);obtain ⟨T,C⟩:∃ y,dK d g q=y:=⟨_,rfl⟩;obtain ⟨U,D⟩:∃ y,dK d v j=y:=⟨_,rfl⟩;rw [C] at J1 l;rw [D] at J2 l;clear F c3 S C D sk L
  go_wp2_with (first|(refine lG s.o ?_)|(refine bU kM 201 (.tmp 5) rfl Y.heap.size 0 rfl _ _ (aq (vs:=[.int .i8 q,.int .i8 j]) f.o rfl) underlying201 rfl kM ?_)|(go_at_call 129;with_reducible refine (O.o _).mono ?_;rintro e E ⟨rfl,t⟩;obtain ⟨a,n,s,f,i⟩:=uz5 t a n s f i;clear t;have k0:=n.o.cell 0;simp only [gX] at k0)|(go_at_call 129;with_reducible refine (U2.o _).mono ?_;rintro e Z ⟨rfl,t⟩;obtain ⟨a,n,s,f,i⟩:=uz5 t a n s f i;clear t;have k0:=n.o.cell 0;simp only [gX] at k0)|(go_at_call 173;refine (N.o _).mono ?_;rintro e w8 ⟨rfl,rfl⟩))
  refine aP (fun w'=>w'.cell? ⟨w1.heap.size,0,none⟩=some (.int .i8 g)∧w'.cell? ⟨Y.heap.size,0,none⟩=some (.int .i8 q)∧w'.cell? ⟨w1.heap.size,1,none⟩=some (.int .i8 v)∧w'.cell? ⟨Y.heap.size,1,none⟩=some (.int .i8 j)∧Blk w' w.heap.size 84 (nD d W nw G B nb cb)∧Below Z Z w') 13 kM ?_ (fun m=>?_)
  ·exact ⟨s.o.drew.cell 0,f.o.drew.cell 0,s.o.drew.cell 1,f.o.drew.cell 1,n.o.drew,(qB _ _).drew⟩
  refine kT' 0 m ?_;refine kT' 1 m ?_;refine kT' 2 m ?_;refine kT' 3 m ?_;refine tkT 4 rfl (yB 84 (.tmp 3) w (fun w M=>M.2.2.2.2.1) underlying84) m ?_;try simp only [pX]
  refine kT' 6 m ?_;refine kT' 7 m ?_;refine kT' 8 m ?_;refine kT' 9 m ?_;refine tkT 10 rfl (yB 84 (.tmp 3) w (fun w M=>M.2.2.2.2.1) underlying84) m ?_;try simp only [pX]
  refine rT 5 (fun K H=>?_);go_simp
  with_reducible refine (J1.o _).mono ?_;rintro e wm ⟨rfl,t⟩
  refine xK H (zR t m) fun m=>?_;clear H K;refine rT 11 (fun K H=>?_);go_simp
  with_reducible refine (J2.o _).mono ?_;rintro e wm ⟨rfl,t⟩
  refine xK H (zR t m) fun m=>?_;clear H K;refine kT' 12 m ?_;refine wpAnyT_tail _ _ rfl rfl kM ?_;have kd:=m.2.2.2.2.2;obtain ⟨a,i⟩:=uz2 kd a i;clear m kd t
  go_wp2_with (refine sG #[.int .i8 T,.int .i8 U] i.o ?_;intro R k z)
  refine rG k ?_;exact ⟨by rw [l.o] <;> rfl,(a.o.away z oM).out⟩
 have t6:(d.kind == 6)=false:=by simp [L]
 rw [if_neg (show ¬ (v < g ∨ (d.kind=6∧j < q)) by omega)] at l;obtain ⟨sk,ba⟩:∃ b,bk d.kind=b:=⟨_,rfl⟩;rw [ba] at N l H1;cases sk with
 | true =>
  rw [if_pos rfl] at l;try simp only at l
  obtain ⟨⟨⟨T,U⟩,y3⟩,hy⟩:∃ y,jl d g v=y:=⟨_,rfl⟩;rw [hy] at SM l;replace SM:=zH (fun w Q t=>SM.o w Q t (H1.o rfl));clear hy F S
  go_wp2_with (first|(refine lG s.o ?_)|(go_at_call 129;with_reducible refine (O.o _).mono ?_;rintro e E ⟨rfl,t⟩;obtain ⟨a,n,s,f,i⟩:=uz5 t a n s f i;clear t;have k0:=n.o.cell 0;simp only [gX] at k0)|(go_at_call 173;refine (N.o _).mono ?_;rintro e w8 ⟨rfl,rfl⟩)|(refine lG n.o ?_)|(go_at_call 199;refine qM (SM.o _ (HW.o.fut a.u).all (HB.o.fut a.u).all) fun w8 t=>?_;obtain ⟨a,n,s,f,i⟩:=uz5 t a n s f i;clear t)|(refine sG #[.int .i8 T,.int .i8 U] i.o ?_;intro R k z))
  refine rG k ?_;exact ⟨by rw [l.o] <;> rfl,(a.o.away z oM).out⟩
 | false =>
 rw [if_neg dM,if_neg L] at l;clear H1;by_cases c7:d.kind=7
 ·have t7:(d.kind == 7)=true:=by simp [c7]
  rw [if_pos c7] at l;try simp only at l
  obtain ⟨T,C⟩:∃ y,fU d g=y:=⟨_,rfl⟩;obtain ⟨U,D⟩:∃ y,fU d v=y:=⟨_,rfl⟩;rw [C] at A1 l;rw [D] at A2 l;clear C D F S c7
  go_wp2_with (first|(refine lG s.o ?_)|(go_at_call 129;with_reducible refine (O.o _).mono ?_;rintro e E ⟨rfl,t⟩;obtain ⟨a,n,s,f,i⟩:=uz5 t a n s f i;clear t;have k0:=n.o.cell 0;simp only [gX] at k0)|(go_at_call 173;refine (N.o _).mono ?_;rintro e w8 ⟨rfl,rfl⟩))
  refine aP (fun w'=>w'.cell? ⟨w1.heap.size,0,none⟩=some (.int .i8 g)∧w'.cell? ⟨Y.heap.size,0,none⟩=some (.int .i8 q)∧w'.cell? ⟨w1.heap.size,1,none⟩=some (.int .i8 v)∧w'.cell? ⟨Y.heap.size,1,none⟩=some (.int .i8 j)∧Blk w' w.heap.size 84 (nD d W nw G B nb cb)∧Below E E w') 9 kM ?_ (fun m=>?_)
  ·exact ⟨s.o.drew.cell 0,f.o.drew.cell 0,s.o.drew.cell 1,f.o.drew.cell 1,n.o.drew,(qB _ _).drew⟩
  refine kT' 0 m ?_;refine kT' 1 m ?_;refine tkT 2 rfl (yB 84 (.tmp 3) w (fun w M=>M.2.2.2.2.1) underlying84) m ?_;try simp only [pX]
  refine kT' 4 m ?_;refine kT' 5 m ?_;refine tkT 6 rfl (yB 84 (.tmp 3) w (fun w M=>M.2.2.2.2.1) underlying84) m ?_;try simp only [pX]
  refine rT 3 (fun K H=>?_);go_simp
  with_reducible refine (A1.o _).mono ?_;rintro e wm ⟨rfl,t⟩
  refine xK H (zR t m) fun m=>?_;clear H K;refine rT 7 (fun K H=>?_);go_simp
  with_reducible refine (A2.o _).mono ?_;rintro e wm ⟨rfl,t⟩
  refine xK H (zR t m) fun m=>?_;clear H K;refine kT' 8 m ?_;refine wpAnyT_tail _ _ rfl rfl kM ?_;have kd:=m.2.2.2.2.2;obtain ⟨a,i⟩:=uz2 kd a i;clear m kd t
  go_wp2_with (refine sG #[.int .i8 T,.int .i8 U] i.o ?_;intro R k z)
  refine rG k ?_;exact ⟨by rw [l.o] <;> rfl,(a.o.away z oM).out⟩
 have t7:(d.kind == 7)=false:=by simp [c7]
 rw [if_neg c7] at l;by_cases P:d.kind=8∧0 < d.p
 ·have t8:(d.kind == 8)=true:=by simp [P.1]
  have t9:decide (0 < d.p)=true:=by simpa using P.2
  rw [if_pos P] at l;try simp only at l
  have OF:=zH (show ofR d.za [g,v]=(min g d.za,max v d.za) by show (min (min d.za g) v,max (max d.za g) v)=_;congr 1 <;> omega);obtain ⟨T,C⟩:∃ y,min g d.za=y:=⟨_,rfl⟩;obtain ⟨U,D⟩:∃ y,max v d.za=y:=⟨_,rfl⟩;rw [C,D] at l OF;rw [OF.o] at OV;clear C D F S P
  go_wp2_with (first|(refine lG s.o ?_)|((go_at_call 129;with_reducible refine (O.o _).mono ?_;rintro e E ⟨rfl,t⟩;obtain ⟨a,n,s,f,i⟩:=uz5 t a n s f i;clear t;have k0:=n.o.cell 0;simp only [gX] at k0);obtain ⟨k5,k7⟩:=uc2 n 5 7;obtain ⟨a0,a1⟩:=uc2 s 0 1;simp only [gX] at k5 k7)|(go_at_call 173;refine (N.o _).mono ?_;rintro e w8 ⟨rfl,rfl⟩;obtain ⟨Z,V⟩:∃ bo,E.alloc (.cells #[.int .i8 g,.int .i8 v] 80)=bo:=⟨_,rfl⟩;have ax:Below E E Z:=(by rw [← V];exact (qB _ _).alloc (lR _) _);obtain ⟨a,i⟩:=uz2 ax a i;have BL:=zH (show Blk Z E.heap.size 80 #[.int .i8 g,.int .i8 v] by rw [← V];exact Blk.now _ _ _ _ rfl);clear ax)|(go_at_call 200;refine qM (OV.o _ _ (Sl.lit _ BL.o.heap rfl (by intro x hx;simp only [List.mem_cons,List.not_mem_nil,or_false] at hx;rcases hx with rfl|rfl;exact OI.o.1;exact OI.o.2) BL.o.lt rfl rfl (by unfold maxLen;simp))) fun w8 t=>?_;obtain ⟨a,i⟩:=uz2 t a i;clear t V)|(refine sG #[.int .i8 T,.int .i8 U] i.o ?_;intro R k z))
  refine rG k ?_;exact ⟨by rw [l.o] <;> rfl,(a.o.away z oM).out⟩
 rw [if_neg P] at l;have t8:(d.kind == 8)=true → decide (0 < d.p)=false:=fun h=>by simp only [beq_iff_eq] at h;simpa using fun hp=>P ⟨h,hp⟩
 obtain ⟨k8,bt⟩:∃ b,(d.kind == 8)=b:=⟨_,rfl⟩;rw [bt] at t8;cases k8 with
 | true =>
  have t9:=t8 rfl;clear t8 P F S
  go_wp2_with (first|(refine lG s.o ?_)|((go_at_call 129;with_reducible refine (O.o _).mono ?_;rintro e E ⟨rfl,t⟩;obtain ⟨a,n,s,f,i⟩:=uz5 t a n s f i;clear t;have k0:=n.o.cell 0;simp only [gX] at k0);obtain ⟨k5,k7⟩:=uc2 n 5 7;obtain ⟨a0,a1⟩:=uc2 s 0 1;simp only [gX] at k5 k7)|(go_at_call 173;refine (N.o _).mono ?_;rintro e w8 ⟨rfl,rfl⟩)|(refine sG #[.int .i8 g,.int .i8 v] i.o ?_;intro R k z))
  refine rG k ?_;exact ⟨by rw [l.o] <;> rfl,(a.o.away z oM).out⟩
 | false =>
  clear t8 P F S
  go_wp2_with (first|(refine lG s.o ?_)|(go_at_call 129;with_reducible refine (O.o _).mono ?_;rintro e E ⟨rfl,t⟩;obtain ⟨a,n,s,f,i⟩:=uz5 t a n s f i;clear t;have k0:=n.o.cell 0;simp only [gX] at k0)|(go_at_call 173;refine (N.o _).mono ?_;rintro e w8 ⟨rfl,rfl⟩)|(refine sG #[.int .i8 g,.int .i8 v] i.o ?_;intro R k z))
  refine rG k ?_;exact ⟨by rw [l.o] <;> rfl,(a.o.away z oM).out⟩
end Go.Proofs.YtbecbfpoahhpnaaGreat
