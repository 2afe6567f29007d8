/- Between which numbers lies the next value (layer 32): guard.step. -/
import Derived.Test.YtbecbfpoahhpnaaGreatJ28
import Derived.Test.YtbecbfpoahhpnaaGreatJ27
set_option linter.unusedVariables false
set_option linter.unusedSimpArgs false
set_option maxRecDepth 100000
set_option maxHeartbeats 16000000
namespace Go.Proofs.YtbecbfpoahhpnaaGreat
open Go.RowKit Go.ChangeShapes Go.WideShapes Tryz
def ee (d:af) (out:List (Int × Int)):(Int × Int) × Int:=if bi d out.length=false then ((0,0),8) else eM d (out.getD d.a.toNat (0,0)) (out.getD (ar d).toNat (0,0))
theorem _root_.Go.World.rangeAt.fut {w w':World} {b o:Nat} {vs:List Value} (h:w.rangeAt b o vs) (e:Below w w w'):w'.rangeAt b o vs:=fun j v t=>au e (h j v t)
theorem rP (d:af) (W:QA) (nw cw:Nat) (B:QA) (nb cb:Nat) (A:QA) (n ac:Nat) (out:List (Int × Int)) (w:World) (hw:xA w W nw cw d.w) (I:xB w B nb cb d.bias) (hd:aQ d)
  (E:Sl (tRg .i8) w (blo w) A n ac out) (mw:nw≤16384) (mb:nb≤16384) (ax:bk d.kind=true → 1≤nw) :
  Calls prog 130 #[.agg (nD d W nw cw B nb cb),.slice A n ac] w (sS (ee d out) w):=by
 obtain ⟨GN,HB,HW,T,HN,HD⟩:=zh6 (fun x x' y y' w hw I x1 x2 y1 y2=>rO d W nw cw B nb cb x x' y y' w hw I hd x1 x2 y1 y2 mw mb ax) (Old.now I) (Old.now hw) (Old.now E) E.n_eq hd;have be:n≤9223372036854775807:=lT E.cap_le E.max_le;have s:=zW w;obtain ⟨r,Z⟩:∃ r,ee d out=r:=⟨_,rfl⟩;rw [Z];clear hw I hd E;obtain ⟨w1,w2,N,O,l1,l2,S,D,ay⟩:=bk2 w (nD d W nw cw B nb cb) 84 #[.int .i8 0,.int .i8 0] 201;obtain ⟨s,T⟩:=uz2 ay s T;clear ay;go_in;obtain ⟨k6,f⟩:∃ b,(d.kind == 6)=b:=⟨_,rfl⟩;cases k6 with
 | true =>
  have t6:(d.kind == 6)=true:=f;have ah:=zH (show ar d=d.b by unfold ar;rw [if_pos (by simpa using f)]);by_cases g:bi d n=true;rotate_left
  ·have J:=zH (show r=((0,0),8) by rw [Z.symm];unfold ee;rw [HN.o,if_pos (by simpa using g)]);have CC:=zH (show min d.a d.b < 0 ∨ ¬ max d.a d.b < (n:Int) by
    by_cases q:min d.a d.b < 0
    ·exact .inl q
    ·refine .inr fun q2=>g ?_;unfold bi;rw [qT oM,Bool.true_and];rw [qT (show 0≤d.b∧d.b < (n:Int) by omega),Bool.or_true])
   obtain ⟨u,M⟩:∃ u,min d.a d.b=u:=⟨_,rfl⟩;obtain ⟨v,p⟩:∃ u,max d.a d.b=u:=⟨_,rfl⟩;have V:=zH (show ofR d.a [d.b]=(u,v) by rw [← M,← p];rfl);rw [M,p] at CC;obtain ⟨n0,R,U⟩:=uc3 S 0 1 2;simp only [gX] at n0 R U;clear M p g Z f;obtain ⟨w3,C,F,m⟩:=nB w2 #[.int .i64 d.b] 3;obtain ⟨s,D⟩:=uz2 m s D;clear m;by_cases cu:u < 0
   ·have tu:decide (u < 0)=true:=by simpa using cu
    go_wp2_with (first|(go_at_call 168;refine (io d.a _ 1 1 [d.b] _ (Sl.lit _ F.o.heap rfl (by intro x l;simp only [List.mem_cons,List.not_mem_nil,or_false] at l;subst l;exact HD.o.b) F.o.lt rfl rfl (by unfold maxLen;simp))).mono ?_;rintro e w4 ⟨rfl,rfl⟩;rw [V.o];clear N O C)|(refine sG #[.int .i8 0,.int .i8 0] D.o ?_;intro w9 P Q))
    refine rG P ?_;exact ⟨by rw [J.o] <;> rfl,(s.o.away Q oM).out⟩
   ·have tu:decide (u < 0)=false:=by simpa using cu
    have tv:decide ((n:Int)≤v)=true:=by have:=CC.o;simp;omega
    go_wp2_with (first|(go_at_call 168;refine (io d.a _ 1 1 [d.b] _ (Sl.lit _ F.o.heap rfl (by intro x l;simp only [List.mem_cons,List.not_mem_nil,or_false] at l;subst l;exact HD.o.b) F.o.lt rfl rfl (by unfold maxLen;simp))).mono ?_;rintro e w4 ⟨rfl,rfl⟩;rw [V.o];clear N O C)|(refine sG #[.int .i8 0,.int .i8 0] D.o ?_;intro w9 P Q))
    refine rG P ?_;exact ⟨by rw [J.o] <;> rfl,(s.o.away Q oM).out⟩
  ·have e1:(0≤d.a∧d.a < (n:Int))∧(0≤d.b∧d.b < (n:Int)):=by
    unfold bi at g;rw [Bool.and_eq_true,decide_eq_true_eq] at g;have c2:=g.2;rw [Bool.or_eq_true,decide_eq_true_eq,decide_eq_true_eq] at c2;exact ⟨g.1,c2.resolve_left (by simpa using f)⟩
   obtain ⟨i,H⟩:∃ k:Nat,d.a=k:=⟨d.a.toNat,by omega⟩;obtain ⟨c,L⟩:∃ k:Nat,d.b=k:=⟨d.b.toNat,by omega⟩;have J:=zH (show r=eM d (out.getD i (0,0)) (out.getD c (0,0)) by rw [Z.symm];unfold ee;rw [HN.o,if_neg (by rw [g];decide),ah.o,show d.a.toNat=i by omega,show d.b.toNat=c by omega]);obtain ⟨u,M⟩:∃ u,min (i:Int) (c:Int)=u:=⟨_,rfl⟩;obtain ⟨v,p⟩:∃ u,max (i:Int) (c:Int)=u:=⟨_,rfl⟩;have V:=zH (show ofR (i:Int) [(c:Int)]=(u,v) by rw [← M,← p];rfl);have tu:decide (u < 0)=false:=sO;have tv:decide ((n:Int)≤v)=false:=sO;have IB:=zH (show InK .i64 (c:Int) by have:=HD.o.b;rwa [L] at this);have pa:(i:Int) < (n:Int):=oM;have pb:(c:Int) < (n:Int):=oM;obtain ⟨x,bo,oo,l,rfl,-,-,x1,x2,q1⟩:=T.o.out.rg_at i oM;obtain ⟨y,ad,al,hy,hA,-,-,y1,y2,q2⟩:=T.o.out.rg_at c oM;obtain ⟨rfl,rfl⟩:bo=ad∧oo=al:=by simpa using hA
   obtain ⟨X,Y⟩:=zh2 q1 q2;rw [show out.getD i (0,0)=x by rw [gD,l];rfl,show out.getD c (0,0)=y by rw [gD,hy];rfl] at J;obtain ⟨x,x'⟩:=x;obtain ⟨y,y'⟩:=y;simp only at X Y x1 x2 y1 y2;replace GN:=zH (fun w hw I=>GN.o x x' y y' w hw I x1 x2 y1 y2);obtain ⟨⟨⟨z1,z2⟩,z3⟩,hz⟩:∃ z,eM d (x,x') (y,y')=z:=⟨_,rfl⟩;rw [hz] at GN J;obtain ⟨n0,R,U⟩:=uc3 S 0 1 2;simp only [gX] at n0 R U;rw [H] at R;rw [L] at U;have an:=zH (show ∀ w',Blk w' w.heap.size 84 (nD d W nw cw B nb cb) → w'.cell? ⟨w.heap.size,1,none⟩=some (.int .i64 (i:Int)) from fun w' h=>by have:=h.cell 1;simp only [gX] at this;rw [← H];exact this)
   
   clear M p g Z f e1 l hy hA q1 q2 x1 x2 y1 y2 hz L;clear H;obtain ⟨w3,C,F,m⟩:=nB w2 #[.int .i64 (c:Int)] 3;obtain ⟨s,D,S,T,X,Y⟩:=uz6 m s D S T X Y;clear m
   go_wp2_with (go_at_call 168;refine (io (i:Int) _ 1 1 [(c:Int)] _ (Sl.lit _ F.o.heap rfl (by intro x l;simp only [List.mem_cons,List.not_mem_nil,or_false] at l;subst l;exact IB.o) F.o.lt rfl rfl (by unfold maxLen;simp))).mono ?_;rintro e w4 ⟨rfl,rfl⟩;rw [V.o])
   obtain ⟨w4,rfl⟩:∃ x,x=w3:=⟨_,rfl⟩;clear N O C n0 R U;have G:=S.o.drew;refine aP (fun w'=>w'.cell? ⟨w.heap.size,1,none⟩=some (.int .i64 (i:Int))∧Blk w' w.heap.size 84 (nD d W nw cw B nb cb)∧Below w4 w4 w') 13 kM ?_ (fun t=>?_)
   ·exact ⟨an.o _ G,G,(qB _ _).drew⟩
   refine tkT 0 rfl (yB 84 (.tmp 2) w (fun w E=>E.2.1) underlying84) t ?_;try simp only [pX]
   refine kT' 1 t ?_;refine kT' 2 t ?_;refine kT' 3 t ?_;refine kT' 4 t ?_;refine tkT 5 rfl (yieldsIf_load_mid (by rfl) 201 (.tmp 37) rfl bo (oo+i*2) rfl _ _ (fun w E j v p=>au E.2.2 (X.o j v p)) underlying201 rfl kM) t ?_;try simp only [pX]
   refine kT' 6 t ?_;refine kT' 7 t ?_;refine kT' 8 t ?_;refine tkT 9 rfl (yieldsIf_load_mid (by rfl) 201 (.tmp 41) rfl bo (oo+c*2) rfl _ _ (fun w E j v p=>au E.2.2 (Y.o j v p)) underlying201 rfl kM) t ?_;try simp only [pX]
   refine rT 10 (fun K hK=>?_);go_simp;refine qM (GN.o _ (HW.o.fut (s.o.fut t.2.2).out).all (HB.o.fut (s.o.fut t.2.2).out).all) fun wm I=>?_;refine xK hK (zR I t) fun t=>?_;clear hK K;refine kT' 11 t ?_;refine kT' 12 t ?_;refine wpAnyT_tail _ _ rfl rfl kM ?_;have kd:=t.2.2;obtain ⟨s,D⟩:=uz2 kd s D;clear t kd I G
   go_wp2_with (refine sG #[.int .i8 z1,.int .i8 z2] D.o ?_;intro w9 P Q)
   refine rG P ?_;exact ⟨by rw [J.o] <;> rfl,(s.o.away Q oM).out⟩
 | false =>
  have t6:(d.kind == 6)=false:=f;have ah:=zH (show ar d=d.a by unfold ar;rw [if_neg (by simpa using f)]);by_cases g:bi d n=true;rotate_left
  ·have J:=zH (show r=((0,0),8) by rw [Z.symm];unfold ee;rw [HN.o,if_pos (by simpa using g)]);have CC:=zH (show min d.a d.a < 0 ∨ ¬ max d.a d.a < (n:Int) by
    by_cases q:min d.a d.a < 0
    ·exact .inl q
    ·refine .inr fun q2=>g ?_;unfold bi;rw [qT oM,Bool.true_and];rw [qT (show d.kind ≠ 6 by simpa using f),Bool.true_or])
   obtain ⟨u,M⟩:∃ u,min d.a d.a=u:=⟨_,rfl⟩;obtain ⟨v,p⟩:∃ u,max d.a d.a=u:=⟨_,rfl⟩;have V:=zH (show ofR d.a [d.a]=(u,v) by rw [← M,← p];rfl);rw [M,p] at CC;obtain ⟨n0,R,U⟩:=uc3 S 0 1 2;simp only [gX] at n0 R U;clear M p g Z f;obtain ⟨w3,C,F,m⟩:=nB w2 #[.int .i64 d.a] 3;obtain ⟨s,D⟩:=uz2 m s D;clear m;by_cases cu:u < 0
   ·have tu:decide (u < 0)=true:=by simpa using cu
    go_wp2_with (first|(go_at_call 168;refine (io d.a _ 1 1 [d.a] _ (Sl.lit _ F.o.heap rfl (by intro x l;simp only [List.mem_cons,List.not_mem_nil,or_false] at l;subst l;exact HD.o.a) F.o.lt rfl rfl (by unfold maxLen;simp))).mono ?_;rintro e w4 ⟨rfl,rfl⟩;rw [V.o];clear N O C)|(refine sG #[.int .i8 0,.int .i8 0] D.o ?_;intro w9 P Q))
    refine rG P ?_;exact ⟨by rw [J.o] <;> rfl,(s.o.away Q oM).out⟩
   ·have tu:decide (u < 0)=false:=by simpa using cu
    have tv:decide ((n:Int)≤v)=true:=by have:=CC.o;simp;omega
    go_wp2_with (first|(go_at_call 168;refine (io d.a _ 1 1 [d.a] _ (Sl.lit _ F.o.heap rfl (by intro x l;simp only [List.mem_cons,List.not_mem_nil,or_false] at l;subst l;exact HD.o.a) F.o.lt rfl rfl (by unfold maxLen;simp))).mono ?_;rintro e w4 ⟨rfl,rfl⟩;rw [V.o];clear N O C)|(refine sG #[.int .i8 0,.int .i8 0] D.o ?_;intro w9 P Q))
    refine rG P ?_;exact ⟨by rw [J.o] <;> rfl,(s.o.away Q oM).out⟩
  ·have e1:(0≤d.a∧d.a < (n:Int))∧(0≤d.a∧d.a < (n:Int)):=by
    unfold bi at g;rw [Bool.and_eq_true,decide_eq_true_eq] at g;exact ⟨g.1,g.1⟩
   obtain ⟨i,H⟩:∃ k:Nat,d.a=k:=⟨d.a.toNat,by omega⟩;obtain ⟨c,L⟩:∃ k:Nat,d.a=k:=⟨d.a.toNat,by omega⟩;have J:=zH (show r=eM d (out.getD i (0,0)) (out.getD c (0,0)) by rw [Z.symm];unfold ee;rw [HN.o,if_neg (by rw [g];decide),ah.o,show d.a.toNat=i by omega,show c=i by omega]);obtain ⟨u,M⟩:∃ u,min (i:Int) (c:Int)=u:=⟨_,rfl⟩;obtain ⟨v,p⟩:∃ u,max (i:Int) (c:Int)=u:=⟨_,rfl⟩;have V:=zH (show ofR (i:Int) [(c:Int)]=(u,v) by rw [← M,← p];rfl);have tu:decide (u < 0)=false:=sO;have tv:decide ((n:Int)≤v)=false:=sO;have IB:=zH (show InK .i64 (c:Int) by have:=HD.o.a;rwa [L] at this);have pa:(i:Int) < (n:Int):=oM;have pb:(c:Int) < (n:Int):=oM;obtain ⟨x,bo,oo,l,rfl,-,-,x1,x2,q1⟩:=T.o.out.rg_at i oM;obtain ⟨y,ad,al,hy,hA,-,-,y1,y2,q2⟩:=T.o.out.rg_at c oM;obtain ⟨rfl,rfl⟩:bo=ad∧oo=al:=by simpa using hA
   obtain ⟨X,Y⟩:=zh2 q1 q2;rw [show out.getD i (0,0)=x by rw [gD,l];rfl,show out.getD c (0,0)=y by rw [gD,hy];rfl] at J;obtain ⟨x,x'⟩:=x;obtain ⟨y,y'⟩:=y;simp only at X Y x1 x2 y1 y2;replace GN:=zH (fun w hw I=>GN.o x x' y y' w hw I x1 x2 y1 y2);obtain ⟨⟨⟨z1,z2⟩,z3⟩,hz⟩:∃ z,eM d (x,x') (y,y')=z:=⟨_,rfl⟩;rw [hz] at GN J;obtain ⟨n0,R,U⟩:=uc3 S 0 1 2;simp only [gX] at n0 R U;rw [H] at R
   
   have an:=zH (show ∀ w',Blk w' w.heap.size 84 (nD d W nw cw B nb cb) → w'.cell? ⟨w.heap.size,1,none⟩=some (.int .i64 (i:Int)) from fun w' h=>by have:=h.cell 1;simp only [gX] at this;rw [← H];exact this);obtain rfl:i=c:=oM;clear M p g Z f e1 l hy hA q1 q2 x1 x2 y1 y2 hz L;clear H;obtain ⟨w3,C,F,m⟩:=nB w2 #[.int .i64 (i:Int)] 3;obtain ⟨s,D,S,T,X,Y⟩:=uz6 m s D S T X Y;clear m
   go_wp2_with (go_at_call 168;refine (io (i:Int) _ 1 1 [(i:Int)] _ (Sl.lit _ F.o.heap rfl (by intro x l;simp only [List.mem_cons,List.not_mem_nil,or_false] at l;subst l;exact IB.o) F.o.lt rfl rfl (by unfold maxLen;simp))).mono ?_;rintro e w4 ⟨rfl,rfl⟩;rw [V.o])
   obtain ⟨w4,rfl⟩:∃ x,x=w3:=⟨_,rfl⟩;clear N O C n0 R U;have G:=S.o.drew;refine aP (fun w'=>w'.cell? ⟨w.heap.size,1,none⟩=some (.int .i64 (i:Int))∧Blk w' w.heap.size 84 (nD d W nw cw B nb cb)∧Below w4 w4 w') 13 kM ?_ (fun t=>?_)
   ·exact ⟨an.o _ G,G,(qB _ _).drew⟩
   refine tkT 0 rfl (yB 84 (.tmp 2) w (fun w E=>E.2.1) underlying84) t ?_;try simp only [pX]
   refine kT' 1 t ?_;refine kT' 2 t ?_;refine kT' 3 t ?_;refine kT' 4 t ?_;refine tkT 5 rfl (yieldsIf_load_mid (by rfl) 201 (.tmp 37) rfl bo (oo+i*2) rfl _ _ (fun w E j v p=>au E.2.2 (X.o j v p)) underlying201 rfl kM) t ?_;try simp only [pX]
   refine kT' 6 t ?_;refine kT' 7 t ?_;refine kT' 8 t ?_;refine tkT 9 rfl (yieldsIf_load_mid (by rfl) 201 (.tmp 41) rfl bo (oo+i*2) rfl _ _ (fun w E j v p=>au E.2.2 (Y.o j v p)) underlying201 rfl kM) t ?_;try simp only [pX]
   refine rT 10 (fun K hK=>?_);go_simp;refine qM (GN.o _ (HW.o.fut (s.o.fut t.2.2).out).all (HB.o.fut (s.o.fut t.2.2).out).all) fun wm I=>?_;refine xK hK (zR I t) fun t=>?_;clear hK K;refine kT' 11 t ?_;refine kT' 12 t ?_;refine wpAnyT_tail _ _ rfl rfl kM ?_;have kd:=t.2.2;obtain ⟨s,D⟩:=uz2 kd s D;clear t kd I G
   go_wp2_with (refine sG #[.int .i8 z1,.int .i8 z2] D.o ?_;intro w9 P Q)
   refine rG P ?_;exact ⟨by rw [J.o] <;> rfl,(s.o.away Q oM).out⟩
inductive DD (α:Type) where
 | on (out:List α)
 | bad (i:Nat) (e:Int)
def e9 {α:Type} (f:af → List α → α × Int) (l:List af) (a:α):Nat → DD α
 | 0=>.on [a]
 | k+1=>match e9 f l a k with
  | .on out=>if (f (l.getD k aM) out).2 ≠ 0 then .bad k (f (l.getD k aM) out).2 else .on (out ++ [(f (l.getD k aM) out).1])
  | .bad i e=>.bad i e
def AK {α:Type} (n:Nat):DD α → List α × Int × Int
 | .on out=>(out,(n:Int),0)
 | .bad i e=>([],(i:Int),e)
theorem oq {α : Type} {f : af → List α → α × Int} {l : List af} {a : α} {k i : Nat} {e : Int} (h : e9 f l a k = .bad i e) : ∀ m, k ≤ m → e9 f l a m = .bad i e := by
  intro m hm
  induction m with
  | zero => obtain rfl : k = 0 := by omega
            exact h
  | succ m ih =>
    by_cases hk : k = m + 1
    · subst hk; exact h
    · have := ih oM
      show (match e9 f l a m with | .on out => _ | .bad i e => _) = _
      rw [this]
theorem rh {α:Type} {f:af → List α → α × Int} {l:List af} {a:α} {k:Nat} {out:List α} {d:af} (h:e9 f l a k=.on out) (t:l[k]?=some d) :
  e9 f l a (k+1)=if (f d out).2 ≠ 0 then .bad k (f d out).2 else .on (out ++ [(f d out).1]):=by
 have e:l.getD k aM=d:=by rw [gD,t];rfl
 show (match e9 f l a k with|.on out=>_|.bad i e=>_)=_;rw [h];simp only [e]
theorem uz {d:af} {out:List (Int × Int)} (h:∀ p ∈ out,InK .i8 p.1∧InK .i8 p.2) (t:aQ d):InK .i8 (ee d out).1.1∧InK .i8 (ee d out).1.2:=by
 have e:∀ i,InK .i8 (out.getD i (0,0)).1∧InK .i8 (out.getD i (0,0)).2:=fun i=>by
  rw [gD];cases q:out[i]? with
  | none=>exact ⟨by decide,by decide⟩
  | some p=>exact h p (mG q)
 unfold ee;split
 ·exact ⟨by decide,by decide⟩
 ·exact Bs (e _) (e _) t
def da (l:List af) (a:Int × Int):List (Int × Int) × Int × Int :=
 if l.length=0 then ([],-1,12) else if 8 < l.length then ([],-1,4) else if a.2 < a.1 then ([],-1,2) else AK l.length (e9 ee l a l.length)
theorem nT:EI prog 198 201 (.agg #[.int .i8 0,.int .i8 0]) 2 2:=⟨underlying198,by kernel_rfl,rfl,by decide⟩
def dE (x:List (Int × Int) × Int × Int) (w:World) (e:Ending) (w':World):Prop :=
 ∃ A m cap,e=.returned (.tuple #[.slice A m cap,.int .i64 x.2.1,.int .i64 x.2.2])∧Sl (tRg .i8) w' (bin w w') A m cap x.1∧Below w w w'
theorem dE.none {i e:Int} {w w':World} (t:Below w w w'):dE ([],i,e) w (.returned (.tuple #[.slice none 0 0,.int .i64 i,.int .i64 e])) w' :=
 ⟨Option.none,0,0,rfl,Sl.nil _ _ _,t⟩
theorem AX (A:QA) (n V:Nat) (l:List af) (lo hi:Int) (w:World) (hs:Sl di w (blo w) A n V l) (Z:InK .i8 lo) (Y:InK .i8 hi) (hf:∀ d ∈ l,d.w.length≤1000∧d.bias.length≤100) (h1:∀ d ∈ l,bk d.kind=true → 1≤d.w.length) :
  Calls prog 103 #[.slice A n V,.agg #[.int .i8 lo,.int .i8 hi]] w (dE (da l (lo,hi)) w):=by
 have hn:=hs.n_eq;obtain ⟨r,hr⟩:∃ r,da l (lo,hi)=r:=⟨_,rfl⟩;rw [hr];unfold da at hr;simp only [hn] at hr;obtain ⟨UP,II,q,H,HF,H1⟩:=zh6 (fun w=>lE lo hi w) (And.intro Z Y) hr.symm hs hf h1;have ay:n≤9223372036854775807:=lT hs.cap_le hs.max_le;clear hr hs hf h1 Z Y hn;have c:=zW w;obtain ⟨w1,J,C,c⟩:=nF c #[.int .i8 lo,.int .i8 hi] 201;have l1:=zL J;by_cases m:n=0
 ·have t1:((n:Int) == 0)=true:=sO;have R:=zH (show r=([],-1,12) by rw [q.o,if_pos m]);clear m q;go_in;go_wp2
  go_ret3
  rw [R.o];exact dE.none c.u
 have t1:((n:Int) == 0)=false:=sO;by_cases M:8 < n
 ·have t2:decide (8 < (n:Int))=true:=sO;have R:=zH (show r=([],-1,4) by rw [q.o,if_neg m,if_pos M]);clear m M q;go_in;go_wp2
  go_ret3
  rw [R.o];exact dE.none c.u
 have t2:decide (8 < (n:Int))=false:=sO;have be:n≤8:=oM;by_cases N:hi < lo
 ·have t3:decide (hi < lo)=true:=by simpa using N
  have R:=zH (show r=([],-1,2) by rw [q.o,if_neg m,if_neg M,if_pos N]);clear m M N q;go_in
  go_wp2_with (first|(refine lG C.o ?_)|(go_at_call 129;refine qM (UP.o _) fun w2 a=>?_;obtain ⟨c,C⟩:=uz2 a c C;clear a J))
  go_ret3
  rw [R.o];exact dE.none c.u
 have t3:decide (hi < lo)=false:=by simpa using N
 have V2:=zH (show r=AK n (e9 ee l (lo,hi) n) by rw [q.o,if_neg m,if_neg M,if_neg N]);clear m M N q;go_in
 go_wp2_with (first|(refine lG C.o ?_)|(go_at_call 129;refine qM (UP.o _) fun w2 a=>?_;obtain ⟨c,C⟩:=uz2 a c C;clear a J)|(refine cJ rfl (.tmp 23) rfl nT #[.int .i8 lo,.int .i8 hi] rfl rfl dM ?_))
 have z2:=c.o.size;go_loopw [7,27] (fun u i wr=>∃ (k:Nat) (out:List (Int × Int)),k≤n∧i=.int .i64 k∧e9 ee l (lo,hi) k=.on out∧(∀ p ∈ out,InK .i8 p.1∧InK .i8 p.2)∧Own (tRg .i8) wr (fun _=>False) w.heap.size 201 u (k+1) out∧Below w w wr) (fun _ i _=>n - (intOf i).toNat)
 case atStart=>exact ⟨0,[(lo,hi)],zl _,rfl,rfl,by intro p hp;rw [List.mem_singleton.1 hp];exact II.o,Own.one z2 (ma II.o.1 II.o.2),c.u.alloc z2 _⟩
 case round =>
  clear c C z2 t1 t2 t3;obtain ⟨k,out,hk,rfl,z,s,f,a⟩:=hrel;obtain ⟨D,ON,HR,HI⟩:=zh4 a f z s;obtain ⟨A1,m,rfl,sl⟩:=f.sl (S':=bin w wr) (by show 0 < 2;decide) (fun b h1 h2=>⟨h1,h2⟩) (fun _ h=>h.elim);have SL:=zH sl;clear a f z sl s;by_cases an:k < n
  ·have p1:(k:Int) < (n:Int):=oM;obtain ⟨d,b0,off,W,nw,cw,B,nb,cb,hd,rfl,_,_,s,G,y,ah⟩:=(H.o.below D.o (fun _ h=>h)).node_at k an;have bt:=HF.o d (mG hd);have F:=H1.o d (mG hd);have v:=rh HR.o hd;have q8:=G.n_eq;have ba:=y.n_eq;rw [q8] at F;obtain ⟨ac,RG,al,HW,T⟩:=zh5 F ah s (G.more (dV D.o.size)) (y.more (dV D.o.size));have I:=uz HI.o s;obtain ⟨⟨⟨O,P⟩,xe⟩,hx⟩:∃ x,ee d out=x:=⟨_,rfl⟩;rw [hx] at v I;simp only at v;obtain ⟨U,HX,XI⟩:=zh3 v hx I;clear hd s G y ah v hx F I;have zr:=D.o.size
   go_wp2_with (first
    | (refine wpList_load_mid rfl 84 (.tmp 30) rfl b0 (off+k*19) rfl _ _ RG.o underlying84 rfl kM ?_)
    | (refine sG (nD d W nw cw B nb cb) (Blk.now _ _ _ _ rfl) ?_;intro w7 B7 g7;have K:=zH (show Below wr wr w7 from ((qB _ _).alloc (lR _) _).grown g7 sM (fun k h=>by have:=sI h;omega));have BD:=zH B7;clear B7 g7)
    | (refine lG BD.o ?_))
   have z7:=K.o.size;refine (rP d W nw cw B nb cb A1 (k+1) m out w7 (HW.o.later K.o (lR _)) (T.o.later K.o (lR _)) al.o ((SL.o.more pN).later K.o (lR _)) oM oM ac.o).mono ?_;rintro e w8 ⟨he,a⟩;rw [HX.o] at he;simp only at he;subst he;obtain ⟨G8,O8⟩:=zh2 (aa a K.o) ((ON.o.below K.o (lR _) (fun _ h=>h.elim)).below a (lR _) (fun _ h=>h.elim));have z8:=a.size;clear a HX;by_cases g:xe=0
   ·subst g;have t4:((0:Int) != 0)=false:=rfl;rw [if_neg dM] at U
    go_wp2_with (first
     | (refine sG #[.int .i8 O,.int .i8 P] (Blk.now _ _ _ _ rfl) ?_;intro w9 Q X;have L:=zH (show Below w8 w8 w9 from ((qB _ _).alloc (lR _) _).grown X sM (fun k h=>by have:=sI h;omega));have BX:=zH Q;clear Q X)
     | (refine lG BX.o ?_)
     | (refine cJ rfl (.tmp 43) rfl nT #[.int .i8 O,.int .i8 P] rfl rfl dM ?_)
     | (at_builtin;refine wpList_push (W:=w9) (cs:=#[.int .i8 O,.int .i8 P]) (E:=201) (t:=tRg .i8) (S:=fun _=>False) (base:=w.heap.size) rfl (.tmp 42) (.tmp 44) rfl nT rfl (O8.o.below L.o (lR _) (fun _ h=>h.elim)) 1 rfl (O,P) (ma XI.o.1 XI.o.2) mL oM (by have:=L.o.size;omega) (fun _ h=>h.elim) ?_;intro v' wz ad gz ax))
    have bz:=(aa L.o (aa G8.o D.o)).grown gz (by have:=L.o.size;omega) (fun j hj=>(O8.o.lt j hj).1);exact ⟨⟨k+1,out ++ [(O,P)],by omega,by go_num,U.o,by intro p hp;rcases List.mem_append.1 hp with h|h;exact HI.o p h;rw [List.mem_singleton.1 h];exact XI.o,ad,bz⟩,by simp [intOf];omega⟩
   ·have t4:(xe != 0)=true:=by simpa using g
    rw [if_pos g] at U;have R:=zH (show r=([],(k:Int),xe) by rw [V2.o,oq U.o n oM];rfl);clear g U V2
    go_wp2_with (refine sG #[.int .i8 O,.int .i8 P] (Blk.now _ _ _ _ rfl) ?_;intro w9 Q X;have L:=zH (show Below w8 w8 w9 from ((qB _ _).alloc (lR _) _).grown X sM (fun k h=>by have:=sI h;omega));have BX:=zH Q;clear Q X)
    go_ret3
    rw [R.o];exact dE.none (aa L.o (aa G8.o D.o))
  ·obtain rfl:k=n:=oM;have R:=zH (show r=(out,(k:Int),0) by rw [V2.o,HR.o];rfl);clear an hk V2;go_wp2
   go_ret3
   rw [R.o];exact ⟨A1,_,m,rfl,SL.o,D.o⟩
def gW (w bias:List Int) (lo hi:Int):Int:=if (eU w bias lo hi 0 false).length=0 then 9 else if dc (eU w bias lo hi 0 false)=true then 0 else 10
theorem sX {w bias:List Int} {lo hi z:Int} {gaps:Bool}:(eU w bias lo hi z gaps).length=if bias.length=0 ∨ ¬ w.length % bias.length=0 then 0 else bias.length:=by
 unfold eU;split <;> simp
theorem rN (W:QA) (nw v:Nat) (h:List Int) (B:QA) (nb cb:Nat) (n:List Int) (need lo hi:Int) (w:World) (f:xA w W nw v h) (t:xB w B nb cb n)
  (l:InK .i8 lo) (d:InK .i8 hi) (U:nw≤16384) (T:nb≤16384) (j:1≤nw) :
  Calls prog 132 #[.agg #[.slice W nw v,.slice B nb cb,.int .i32 need],.agg #[.int .i8 lo,.int .i8 hi]] w fun e w'=>e=.returned (.int .i64 (gW h n lo hi))∧Below w w w':=by
 have p:=zH (fun w f t=>nH ⟨0,0,0,0,0,0,0,0,0,h,n,0,0,0,0,0,0,0,0⟩ W nw v B nb cb lo hi w f t (show InK .i8 0 by decide) l d U T j);rw [show decide ((0:Int) < 0)=false from rfl] at p;obtain ⟨I,J⟩:=zh2 (Old.now t) (Old.now f);have a:=zW w;obtain ⟨r,m⟩:∃ r,gW h n lo hi=r:=⟨_,rfl⟩;rw [m];unfold gW at m;have C:=zH (sX (w:=h) (bias:=n) (lo:=lo) (hi:=hi) (z:=0) (gaps:=false));rw [t.n_eq,f.n_eq] at C;obtain ⟨L,E⟩:∃ L,eU h n lo hi 0 false=L:=⟨_,rfl⟩;rw [E] at p m C;have i:=zH m.symm;clear f t l d m E;obtain ⟨Y,Z,x,A,_,_,H,G,y⟩:=bk2 w #[.slice W nw v,.slice B nb cb,.int .i32 need] 49 #[.int .i8 lo,.int .i8 hi] 201;replace a:=zF y a;clear y;obtain ⟨Q,R⟩:=uc2 H 0 1;obtain ⟨N,O⟩:=uc2 G 0 1;have K:=zH (show 0≤L.length from zl _);go_in;go_wp2_with fail;clear x A Q R N O;refine (p.o _ (J.o.fut a.u).all (I.o.fut a.u).all).mono ?_;rintro e w3 ⟨F,g,P,rfl,q,t⟩;have D:=zH (Old.now q.old);have M:=q.n_eq;clear q p K;replace a:=zF t a;clear t;rw [M] at i;by_cases s:g=0
 ·have V:((g:Int) == 0)=true:=by simp [s]
  rw [if_pos s] at i;clear s;go_wp2;go_ret;exact ⟨by rw [i.o];rfl,a.u⟩
 have V:((g:Int) == 0)=false:=by simp [s]
 rw [if_neg s] at i;have k:=zH (fun w S=>lH F g P L w S);obtain ⟨ok,c⟩:∃ b,dc L=b:=⟨_,rfl⟩;rw [c] at k i;clear s c;cases ok with
 | false =>
  rw [if_neg dM] at i
  go_wp2_with (go_at_call 171;refine qM (k.o _ D.o.all) fun X t=>?_;replace a:=zF t a;clear t)
  go_ret;exact ⟨by rw [i.o];rfl,a.u⟩
 | true =>
  rw [if_pos rfl] at i
  go_wp2_with (go_at_call 171;refine qM (k.o _ D.o.all) fun X t=>?_;replace a:=zF t a;clear t)
  go_ret;exact ⟨by rw [i.o];rfl,a.u⟩
theorem ql (W:QA) (nw A:Nat) (j:List Int) (B:QA) (nb cb:Nat) (g:List Int) (need lo hi:Int) (w:World) (v:xA w W nw A j) (t:xB w B nb cb g)
  (D:InK .i8 lo) (C:InK .i8 hi) (U:nw≤16384) (T:nb≤16384) (N:1≤nw) :
  Calls prog 72 #[.agg #[.slice W nw A,.slice B nb cb,.int .i32 need],.agg #[.int .i8 lo,.int .i8 hi]] w fun e w'=>e=.returned (.int .i64 (gW j g lo hi))∧Below w w w':=by
 obtain ⟨x,s,O,P⟩:=zh4 (fun w=>ns W nw A B nb cb w mL mL) (fun w v t k f=>rf W nw A j B nb cb g lo hi 0 false w v t dM D C U T N k f) (Old.now t) (Old.now v);have a:=zW w;obtain ⟨r,f⟩:∃ r,gW j g lo hi=r:=⟨_,rfl⟩;rw [f];unfold gW at f;have b:=zH (sX (w:=j) (bias:=g) (lo:=lo) (hi:=hi) (z:=0) (gaps:=false));rw [t.n_eq,v.n_eq] at b;obtain ⟨L,R⟩:∃ L,eU j g lo hi 0 false=L:=⟨_,rfl⟩;rw [R] at s f b;have d:=zH f.symm;clear v t D C f R;obtain ⟨X,Y,G,H,_,_,c,l,F⟩:=bk2 w #[.slice W nw A,.slice B nb cb,.int .i32 need] 49 #[.int .i8 lo,.int .i8 hi] 167;replace a:=zF F a;clear F;obtain ⟨k,K⟩:=uc2 c 0 1;obtain ⟨I,J⟩:=uc2 l 0 1;have Q:=zH (show 0≤L.length from zl _);by_cases i:nb=0 ∨ ¬ nw % nb=0
 ·have M:=zH (show (decide (0 < nb) && decide (nw % nb=0))=false by rcases i with h|h;rw [h];rfl;rw [dF h,Bool.and_false]);rw [M.o] at x;rw [if_pos i] at b;rw [if_pos b.o] at d;clear i s Q;go_in
  go_wp2_with (go_at_call 93;refine qM (x.o _) fun S t=>?_;replace a:=zF t a;clear t)
  go_ret;exact ⟨by rw [d.o];rfl,a.u⟩
 have n:¬ nb=0∧nw % nb=0:=oM;have M:=zH (show (decide (0 < nb) && decide (nw % nb=0))=true by rw [qT n.2,qT oM];rfl);rw [M.o] at x;rw [if_neg i] at b;rw [if_neg (by rw [b.o];exact n.1)] at d;replace s:=zH (fun w v t=>s.o w v t n.1 n.2);obtain ⟨⟨p,q⟩,E⟩:∃ y,ey L=y:=⟨_,rfl⟩;obtain ⟨ok,m⟩:∃ y,dc L=y:=⟨_,rfl⟩;rw [E,m] at s;rw [m] at d;simp only at s;clear E m i n Q;cases ok with
 | false =>
  rw [if_neg dM] at d;go_in
  go_wp2_with (first|(go_at_call 93;refine qM (x.o _) fun S t=>?_;obtain ⟨a,c,l⟩:=uz3 t a c l;clear t G H k K I J;obtain ⟨k,K⟩:=uc2 c 0 1;obtain ⟨I,J⟩:=uc2 l 0 1)|(go_at_call 94;refine qM (s.o _ (P.o.fut a.u).all (O.o.fut a.u).all) fun V t=>?_;replace a:=zF t a;clear t))
  go_ret;exact ⟨by rw [d.o];rfl,a.u⟩
 | true =>
  rw [if_pos rfl] at d;go_in
  go_wp2_with (first|(go_at_call 93;refine qM (x.o _) fun S t=>?_;obtain ⟨a,c,l⟩:=uz3 t a c l;clear t G H k K I J;obtain ⟨k,K⟩:=uc2 c 0 1;obtain ⟨I,J⟩:=uc2 l 0 1)|(go_at_call 94;refine qM (s.o _ (P.o.fut a.u).all (O.o.fut a.u).all) fun V t=>?_;replace a:=zF t a;clear t))
  go_ret;exact ⟨by rw [d.o];rfl,a.u⟩
structure aN where
 nodes:List af
 exit:Bool
 head:Hd
structure Bun where
 h:Int
 v:Int
 c:Int
 cl:Int
 models:List (List aN)
def eQ:Ty aN:=tMap (fun x:List af × Bool × Hd=>⟨x.1,x.2.1,x.2.2⟩) (tPair (tSlice di) (tPair xQ tHd))
def bJ:Ty (List aN):=tSlice eQ
def Ed:Ty Bun:=tMap (fun x:(Int × Int × Int) × Int × List (List aN)=>⟨x.1.1,x.1.2.1,x.1.2.2,x.2.1,x.2.2⟩) (tPair dg (tPair (ab .i64) (tSlice bJ)))
theorem yX:Opens prog 4 xQ:=xg underlying4 kM
theorem yY:Opens prog 51 eQ :=
 iS _ (dQ underlying51 kM (aA rfl (f9 underlying47 kM dM xh) (aA rfl yX (dd rfl Bt))))
theorem vq:Opens prog 54 bJ :=
 dQ underlying54 kM (dd rfl (f9 underlying52 kM dM yY))
theorem yZ:Opens prog 26 Ed :=
 iS _ (dQ underlying26 kM (aA rfl ng (aA rfl dx (dd rfl (f9 underlying24 kM dM vq)))))
structure dz (b:aN) (L:QA) (n cn:Nat) (W:QA) (nw cw:Nat) (B:QA) (nb cb:Nat) (S:Nat → Prop) (w:World):Prop where
 nodes:Sl di w S L n cn b.nodes
 hw:Sl (ab .i8) w S W nw cw b.head.w
 hb:Sl (ab .i32) w S B nb cb b.head.bias
 need:InK .i32 b.head.need
theorem Ax {w:World} {S:Nat → Prop} {cs:List Value} {b:aN} (h:eQ.rep w S cs b) :
  ∃ L n t W nw a B nb cb,cs=[.slice L n t,.bool b.exit,.slice W nw a,.slice B nb cb,.int .i32 b.head.need]∧dz b L n t W nw a B nb cb S w:=by
 obtain ⟨⟨l,e,y⟩,rfl,m,p,rfl,o,f,v,rfl,rfl,i⟩:=h;obtain ⟨L,t,rfl,d⟩:=aZ.1 o;obtain ⟨W,nw,a,B,nb,cb,rfl,r,c,s⟩:=CZ i;exact ⟨L,_,t,W,nw,a,B,nb,cb,rfl,d,c,s,r⟩
theorem DP {w:World} {S:Nat → Prop} {W:QA} {nw e:Nat} {B:QA} {nb cb:Nat} {h:Hd} (o:Sl (ab .i8) w S W nw e h.w) (t:Sl (ab .i32) w S B nb cb h.bias) (a:InK .i32 h.need):tHd.rep w S [.slice W nw e,.slice B nb cb,.int .i32 h.need] h :=
 ⟨(h.w,h.bias,h.need),rfl,[_],[_,_],rfl,o.rep,[_],[_],rfl,t.rep,rfl,a⟩
theorem vP {w:World} {S:Nat → Prop} {b:aN} {L:QA} {n e:Nat} {W:QA} {nw t:Nat} {B:QA} {nb cb:Nat} (h:dz b L n e W nw t B nb cb S w):eQ.rep w S [.slice L n e,.bool b.exit,.slice W nw t,.slice B nb cb,.int .i32 b.head.need] b :=
 ⟨(b.nodes,b.exit,b.head),rfl,[_],[_,_,_,_],rfl,h.nodes.rep,[_],[_,_,_],rfl,rfl,DP h.hw h.hb h.need⟩
theorem dz.keep {b:aN} {L:QA} {n a:Nat} {W:QA} {nw o:Nat} {B:QA} {nb cb:Nat} {S S':Nat → Prop} {w w':World} (h:dz b L n a W nw o B nb cb S w) (e:∀ x,S x → w'.heap[x]?=w.heap[x]?) (t:∀ x,S x → S' x):dz b L n a W nw o B nb cb S' w' :=
 ⟨(h.nodes.keep e).more t,(h.hw.keep e).more t,(h.hb.keep e).more t,h.need⟩
theorem dz.fut {b:aN} {L:QA} {n e:Nat} {W:QA} {nw t:Nat} {B:QA} {nb cb:Nat} {w w':World} (h:dz b L n e W nw t B nb cb (blo w) w) (a:Below w w w'):dz b L n e W nw t B nb cb (blo w') w' :=
 h.keep (fun x o=>a.block x o) (dV a.size)
theorem Sl.blk_at {w:World} {S:Nat → Prop} {A:QA} {n a:Nat} {l:List aN} (h:Sl eQ w S A n a l) (i:Nat) (hi:i < n) :
  ∃ b g off L m e W nw t B nb cb,l[i]?=some b∧A=some ⟨g,off,none⟩∧S g∧w.rangeAt g (off+i*5) [.slice L m e,.bool b.exit,.slice W nw t,.slice B nb cb,.int .i32 b.head.need]∧dz b L m e W nw t B nb cb S w:=by
 obtain ⟨b,g,off,xs,y,o,s,-,c,-,d⟩:=h.cells i hi dM;obtain ⟨L,m,e,W,nw,t,B,nb,cb,rfl,r⟩:=Ax c;refine ⟨b,g,off,L,m,e,W,nw,t,B,nb,cb,y,o,s,fun j v f=>?_,r⟩;have:=d j v f;rw [show eQ.size=5 from rfl] at this;rw [Nat.add_assoc];exact this
theorem Sl.model_at {w:World} {S:Nat → Prop} {A:QA} {n o:Nat} {l:List (List aN)} (h:Sl bJ w S A n o l) (i:Nat) (hi:i < n) :
  ∃ m g off t s a,l[i]?=some m∧A=some ⟨g,off,none⟩∧S g∧w.cell? ⟨g,off+i,none⟩=some (.slice t s a)∧Sl eQ w S t s a m:=by
 obtain ⟨m,g,off,v,p,r,d,-,f,c⟩:=h.cell1 rfl i hi;obtain ⟨t,a,e,y⟩:=aZ.1 f;simp only [List.cons.injEq,and_true] at e;subst e;exact ⟨m,g,off,t,_,a,p,r,d,c,y⟩
theorem Ay {w:World} {S:Nat → Prop} {cs:List Value} {u:Bun} (h:Ed.rep w S cs u) :
  ∃ A n e,cs=[.int .i64 u.h,.int .i64 u.v,.int .i64 u.c,.int .i64 u.cl,.slice A n e]∧(InK .i64 u.h∧InK .i64 u.v∧InK .i64 u.c∧InK .i64 u.cl)∧Sl bJ w S A n e u.models:=by
 obtain ⟨⟨⟨a,b,c⟩,k,l⟩,rfl,_,_,rfl,⟨_,_,rfl,⟨rfl,t⟩,_,_,rfl,⟨rfl,o⟩,rfl,i⟩,_,_,rfl,⟨rfl,s⟩,r⟩:=h;obtain ⟨A,e,rfl,d⟩:=aZ.1 r;exact ⟨A,_,e,rfl,⟨t,o,i,s⟩,d⟩
/-! ### What is wrong with a bundle -/
def iu (b:aN):Prop:=(b.nodes.length≤12∧∀ d ∈ b.nodes,d.w.length≤1000∧d.bias.length≤100)∧b.head.w.length≤4000∧b.head.bias.length≤100
def iw (u:Bun):Prop:=u.models.length≤4∧∀ m ∈ u.models,m.length≤8∧∀ b ∈ m,iu b
def mT (h:Hd):Bool:=decide (0 < h.w.length) || (decide (0 < h.bias.length) || h.need != 0)
def eY (b:aN) (out:Sh3) (r:Int × Int) (cl:Int) (last:Bool):Int :=
 if b.exit=false then (if last=true ∨ mT b.head=true then 11 else 0)
 else if aU (ag out.1 out.2.1 out.2.2) b.head.w.length b.head.bias.length b.head.need cl ≠ 0 then aU (ag out.1 out.2.1 out.2.2) b.head.w.length b.head.bias.length b.head.need cl
 else gW b.head.w b.head.bias r.1 r.2
def dD (b:aN) (s:Sh3) (cl:Int) (last:Bool):Int × Int :=
 if (ao b.nodes s).2.2 ≠ 0 then (ao b.nodes s).2 else if (da b.nodes (-128,127)).2.2 ≠ 0 then (da b.nodes (-128,127)).2
 else if eY b ((ao b.nodes s).1.getD b.nodes.length (0,0,0)) ((da b.nodes (-128,127)).1.getD b.nodes.length (0,0)) cl last ≠ 0 then (-1,eY b ((ao b.nodes s).1.getD b.nodes.length (0,0,0)) ((da b.nodes (-128,127)).1.getD b.nodes.length (0,0)) cl last)
 else (b.nodes.length,0)
def cQ (b:aN) (s:Sh3):Sh3:=(ao b.nodes s).1.getD b.nodes.length (0,0,0)
def eA:aN:=⟨[],false,⟨[],[],0⟩⟩
inductive Ep where
 | on (s:Sh3)
 | bad (i:Nat) (at' e:Int)
def fc (l:List aN) (s:Sh3) (cl:Int):Nat → Ep
 | 0=>.on s
 | k+1=>match fc l s cl k with
  | .on s'=>if (dD (l.getD k eA) s' cl ((k:Int) == (l.length:Int) - 1)).2 ≠ 0 then .bad k (dD (l.getD k eA) s' cl ((k:Int) == (l.length:Int) - 1)).1 (dD (l.getD k eA) s' cl ((k:Int) == (l.length:Int) - 1)).2
   else .on (cQ (l.getD k eA) s')
  | .bad i a e=>.bad i a e
abbrev F4:=Int × Int × Int × Int
def ec (l:List aN) (s:Sh3) (cl:Int) (at':Int):F4 :=
 if l.length=0 then (12,at',-1,-1) else if 6 < l.length then (4,at',-1,-1) else match fc l s cl l.length with
  | .on _=>(0,0,0,0)
  | .bad i a e=>(e,at',i,a)
def eG (u:Bun):Int:=if ag u.h u.v u.c=0 then 5 else if u.cl < 2 ∨ 16 < u.cl then 2 else if u.models.length=0 then 12 else if 3 < u.models.length then 4 else 0
def ed (u:Bun):Nat → F4
 | 0=>(0,0,0,0)
 | k+1=>if (ed u k).1 ≠ 0 then ed u k else ec (u.models.getD k []) (u.h,u.v,u.c) u.cl k
def cP (u:Bun):F4:=if eG u ≠ 0 then (eG u,-1,-1,-1) else ed u u.models.length
theorem uk {l : List aN} {s : Sh3} {cl : Int} {k i : Nat} {a e : Int} (h : fc l s cl k = .bad i a e) : ∀ m, k ≤ m → fc l s cl m = .bad i a e := by
  intro m hm
  induction m with
  | zero => obtain rfl : k = 0 := by omega
            exact h
  | succ m ih =>
    by_cases hk : k = m + 1
    · subst hk; exact h
    · have := ih oM
      show (match fc l s cl m with | .on s' => _ | .bad i a e => _) = _
      rw [this]
theorem rj {l:List aN} {s t:Sh3} {cl:Int} {k:Nat} {b:aN} (h:fc l s cl k=.on t) (o:l[k]?=some b) :
  fc l s cl (k+1)=if (dD b t cl ((k:Int) == (l.length:Int) - 1)).2 ≠ 0 then .bad k (dD b t cl ((k:Int) == (l.length:Int) - 1)).1 (dD b t cl ((k:Int) == (l.length:Int) - 1)).2 else .on (cQ b t):=by
 have e:l.getD k eA=b:=by rw [gD,o];rfl
 show (match fc l s cl k with|.on t=>_|.bad i a e=>_)=_;rw [h];simp only [e]
theorem ul {l:List aN} {s:Sh3} {cl:Int} (k:Nat):∀ {i:Nat} {a e:Int},fc l s cl k=.bad i a e → e ≠ 0:=by
 induction k with
 | zero=>intro i a e h;cases h
 | succ k ih =>
  intro i a e h;unfold fc at h;cases t:fc l s cl k with
  | bad i' a' e'=>rw [t] at h;cases h;exact ih t
  | on o =>
   rw [t] at h;simp only at h;split at h
   ·rename_i c;cases h;exact c
   ·cases h
theorem mZ {l:List aN} {s:Sh3} {cl at':Int} (h:(ec l s cl at').1=0):ec l s cl at'=(0,0,0,0):=by
 unfold ec at *;split at h
 ·cases h
 split at h
 ·cases h
 rw [if_neg ‹_›,if_neg ‹_›];cases t:fc l s cl l.length with
 | on o=>rfl
 | bad i a e=>rw [t] at h;exact absurd h (ul _ t)
theorem um {u : Bun} {k : Nat} (h : (ed u k).1 ≠ 0) : ∀ m, k ≤ m → ed u m = ed u k := by
  intro m hm
  induction m with
  | zero => obtain rfl : k = 0 := by omega
            rfl
  | succ m ih =>
    by_cases hk : k = m + 1
    · subst hk; rfl
    · have := ih oM
      show (if (ed u m).1 ≠ 0 then ed u m else _) = _
      rw [this, if_pos h]
theorem rl {u:Bun} {k:Nat} {m:List aN} (h:(ed u k).1=0) (t:u.models[k]?=some m):ed u (k+1)=ec m (u.h,u.v,u.c) u.cl k:=by
 have e:u.models.getD k []=m:=by rw [gD,t];rfl
 show (if (ed u k).1 ≠ 0 then ed u k else _)=_;rw [if_neg (by simpa using h),e]
theorem mi {u:Bun}:∀ {k:Nat},(ed u k).1=0 → ed u k=(0,0,0,0)
 | 0,_=>rfl
 | k+1,h=>by
  unfold ed at h ⊢;split at h
  ·rename_i c;exact absurd h c
  ·rename_i c;rw [if_neg c];exact mZ h
/-! ### What a bundle that may be tells -/
structure pM (b:aN) (s:Sh3) (cl:Int) (last:Bool):Prop where
 shapes:(ao b.nodes s).2.2=0
 flow:(da b.nodes (-128,127)).2.2=0
 exit:eY b (cQ b s) ((da b.nodes (-128,127)).1.getD b.nodes.length (0,0)) cl last=0
theorem lN {b:aN} {s:Sh3} {cl:Int} {last:Bool} (h:(dD b s cl last).2=0):pM b s cl last:=by
 unfold dD at h;split at h
 ·rename_i c;exact absurd h c
 split at h
 ·rename_i _ c;exact absurd h c
 split at h
 ·rename_i _ _ c;exact absurd h c
 ·rename_i e t a;exact ⟨Decidable.not_not.1 e,Decidable.not_not.1 t,Decidable.not_not.1 a⟩
def inV (l:List aN) (s:Sh3):Nat → Sh3
 | 0=>s
 | k+1=>cQ (l.getD k eA) (inV l s k)
theorem Dk {l:List aN} {s:Sh3} {cl:Int} (k:Nat):∀ {t:Sh3},fc l s cl k=.on t → t=inV l s k∧∀ i,i < k → pM (l.getD i eA) (inV l s i) cl ((i:Int) == (l.length:Int) - 1):=by
 induction k with
 | zero=>intro t h;cases h;exact ⟨rfl,fun i hi=>absurd hi (Nat.not_lt_zero _)⟩
 | succ k ih =>
  intro t h;unfold fc at h;cases r:fc l s cl k with
  | bad i a e=>rw [r] at h;cases h
  | on o =>
   rw [r] at h;obtain ⟨rfl,m⟩:=ih r;simp only at h;split at h
   ·cases h
   ·rename_i c;cases h;have d:=lN (Decidable.not_not.1 c);refine ⟨rfl,fun i hi=>?_⟩;by_cases n:i < k
    ·exact m i n
    ·obtain rfl:i=k:=oM;exact d
structure ku (l:List aN) (s:Sh3) (cl:Int):Prop where
 one:1≤l.length
 six:l.length≤6
 blocks:∀ i,i < l.length → pM (l.getD i eA) (inV l s i) cl ((i:Int) == (l.length:Int) - 1)
theorem yU {l:List aN} {s:Sh3} {cl at':Int} (h:(ec l s cl at').1=0):ku l s cl:=by
 unfold ec at h;split at h
 ·cases h
 split at h
 ·cases h
 rename_i n r;cases t:fc l s cl l.length with
 | on o=>exact ⟨by omega,by omega,(Dk _ t).2⟩
 | bad i a e=>rw [t] at h;exact absurd h (ul _ t)
structure dn (u:Bun):Prop where
 input:ag u.h u.v u.c ≠ 0
 cl:2≤u.cl∧u.cl≤16
 one:1≤u.models.length
 three:u.models.length≤3
 models:∀ i,i < u.models.length → ku (u.models.getD i []) (u.h,u.v,u.c) u.cl
theorem wA {u:Bun} (h:(cP u).1=0):dn u:=by
 unfold cP at h;split at h
 ·rename_i c;exact absurd h c
 rename_i c;have e:=Decidable.not_not.1 c;unfold eG at e;split at e
 ·cases e
 split at e
 ·cases e
 split at e
 ·cases e
 split at e
 ·cases e
 rename_i n s r c4;have o:∀ k,(ed u k).1=0 → ∀ i,i < k → ku (u.models.getD i []) (u.h,u.v,u.c) u.cl:=by
  intro k
  induction k with
  | zero=>intro _ i hi;exact absurd hi (Nat.not_lt_zero _)
  | succ k ih =>
   intro t i hi;unfold ed at t;split at t
   ·rename_i c;exact absurd t c
   ·rename_i c;by_cases a:i < k
    ·exact ih (Decidable.not_not.1 c) i a
    ·obtain rfl:i=k:=oM;exact yU t
 exact ⟨n,by omega,by omega,by omega,o _ h⟩
theorem jG:di.size=19:=rfl
theorem qP:EI prog 24 54 (.agg #[.slice none 0 0]) 1 24:=⟨underlying24,by kernel_rfl,rfl,by decide⟩
theorem pS (A:QA) (n c:Nat) (l:List (List aN)) (w:World) (S:Nat → Prop) (a:∀ b,S b → b < w.heap.size) (h:Sl bJ w S A n c l) (p:n≤100000) :
  Calls prog 53 #[.slice A n c] w fun e w'=>∃ v,e=.returned v∧Own bJ w' S w.heap.size 54 v n l∧Below w w w':=by
 cases A with
 | none =>
  have d:=h.nil_ rfl;have y:=h.cap_le;obtain rfl:c=0:=d;obtain rfl:n=0:=oM;obtain rfl:l=[]:=List.length_eq_zero_iff.1 h.n_eq;clear h;have i:=fun w=>Lib.run_eql_slice_nil (P:=prog) w 24 54 none 0 0 0 0 underlying24;simp only [Option.isNone_none] at i;go_in;go_wp2;go_ret;exact ⟨_,rfl,Own.nil _ _ _ _ _,qB _ _⟩
 | some ad =>
  have H:=zH h;clear h;have i:=fun w=>Lib.run_eql_slice_nil (P:=prog) w 24 54 (some ad) n c 0 0 underlying24;simp only [Option.isNone_some] at i;go_in;have k0:Below w w (w.alloc (.cells #[] 54)):=(qB _ _).alloc (lR _) _;have m:=H.o.below k0 a
  go_wp2_with (at_builtin;refine jP (t:=bJ) (S:=S) (S':=S) (base:=w.heap.size) rfl _ _ rfl qP rfl (Own.lit (lR _)) rfl m (fun _ h=>h) mL oM k0.size (fun b h=>⟨Nat.lt_of_lt_of_le (a b h) k0.size,fun e=>absurd (sI e) (Nat.ne_of_lt (a b h))⟩) ?_;intro g w' s r f)
  go_ret;rw [List.nil_append,Nat.zero_add] at s;exact ⟨_,rfl,s,k0.grown r k0.size (fun k h=>Nat.le_of_eq (sI h))⟩
theorem qO:EI prog 52 51 (.agg #[.slice none 0 0,.bool false,.slice none 0 0,.slice none 0 0,.int .i32 0]) 5 88:=⟨underlying52,by kernel_rfl,rfl,by decide⟩
theorem pR (A:QA) (n c:Nat) (l:List aN) (w:World) (S:Nat → Prop) (a:∀ b,S b → b < w.heap.size) (h:Sl eQ w S A n c l) (p:n≤100000) :
  Calls prog 54 #[.slice A n c] w fun e w'=>∃ v,e=.returned v∧Own eQ w' S w.heap.size 51 v n l∧Below w w w':=by
 cases A with
 | none =>
  have d:=h.nil_ rfl;have y:=h.cap_le;obtain rfl:c=0:=d;obtain rfl:n=0:=oM;obtain rfl:l=[]:=List.length_eq_zero_iff.1 h.n_eq;clear h;have i:=fun w=>Lib.run_eql_slice_nil (P:=prog) w 52 51 none 0 0 0 0 underlying52;simp only [Option.isNone_none] at i;go_in;go_wp2;go_ret;exact ⟨_,rfl,Own.nil _ _ _ _ _,qB _ _⟩
 | some ad =>
  have H:=zH h;clear h;have i:=fun w=>Lib.run_eql_slice_nil (P:=prog) w 52 51 (some ad) n c 0 0 underlying52;simp only [Option.isNone_some] at i;go_in;have k0:Below w w (w.alloc (.cells #[] 51)):=(qB _ _).alloc (lR _) _;have m:=H.o.below k0 a
  go_wp2_with (at_builtin;refine jP (t:=eQ) (S:=S) (S':=S) (base:=w.heap.size) rfl _ _ rfl qO rfl (Own.lit (lR _)) rfl m (fun _ h=>h) mL oM k0.size (fun b h=>⟨Nat.lt_of_lt_of_le (a b h) k0.size,fun e=>absurd (sI e) (Nat.ne_of_lt (a b h))⟩) ?_;intro g w' s r f)
  go_ret;rw [List.nil_append,Nat.zero_add] at s;exact ⟨_,rfl,s,k0.grown r k0.size (fun k h=>Nat.le_of_eq (sI h))⟩
theorem tr:EI prog 47 84 (.agg (nN 0 0 0 0 0 0 0 0 0 none 0 0 none 0 0 0 0 0 0 0 0 0 0)) 19 168:=⟨underlying47,by kernel_rfl,rfl,by decide⟩
theorem rF (A:QA) (n c:Nat) (l:List af) (w:World) (S:Nat → Prop) (a:∀ b,S b → b < w.heap.size) (h:Sl di w S A n c l) (p:n≤100000) :
  Calls prog 79 #[.slice A n c] w fun e w'=>∃ v,e=.returned v∧Own di w' S w.heap.size 84 v n l∧Below w w w':=by
 cases A with
 | none =>
  have d:=h.nil_ rfl;have y:=h.cap_le;obtain rfl:c=0:=d;obtain rfl:n=0:=oM;obtain rfl:l=[]:=List.length_eq_zero_iff.1 h.n_eq;clear h;have i:=fun w=>Lib.run_eql_slice_nil (P:=prog) w 47 84 none 0 0 0 0 underlying47;simp only [Option.isNone_none] at i;go_in;go_wp2;go_ret;exact ⟨_,rfl,Own.nil _ _ _ _ _,qB _ _⟩
 | some ad =>
  have H:=zH h;clear h;have i:=fun w=>Lib.run_eql_slice_nil (P:=prog) w 47 84 (some ad) n c 0 0 underlying47;simp only [Option.isNone_some] at i;go_in;have k0:Below w w (w.alloc (.cells #[] 84)):=(qB _ _).alloc (lR _) _;have m:=H.o.below k0 a
  go_wp2_with (at_builtin;refine jP (t:=di) (S:=S) (S':=S) (base:=w.heap.size) rfl _ _ rfl tr rfl (Own.lit (lR _)) rfl m (fun _ h=>h) mL oM k0.size (fun b h=>⟨Nat.lt_of_lt_of_le (a b h) k0.size,fun e=>absurd (sI e) (Nat.ne_of_lt (a b h))⟩) ?_;intro g w' s r f)
  go_ret;rw [List.nil_append,Nat.zero_add] at s;exact ⟨_,rfl,s,k0.grown r k0.size (fun k h=>Nat.le_of_eq (sI h))⟩
def mU (nw nb:Nat) (need:Int):Bool:=decide (0 < nw) || (decide (0 < nb) || need != 0)
theorem Aw (W:QA) (nw m:Nat) (B:QA) (nb cb:Nat) (need:Int) (w:World) :
  Calls prog 131 #[.agg #[.slice W nw m,.slice B nb cb,.int .i32 need]] w fun e w'=>e=.returned (.bool (!mU nw nb need))∧Below w w w':=by
 have H:=zW w;obtain ⟨b,y,d,k1⟩:=nB w #[.slice W nw m,.slice B nb cb,.int .i32 need] 49;replace H:=zN k1 H d;have v:=fun i=>H.o.2.cell i;clear d k1;have t:=zH (show mU nw nb need=(decide (0 < nw) || (decide (0 < nb) || need != 0)) from rfl);obtain ⟨r,h⟩:∃ r,mU nw nb need=r:=⟨_,rfl⟩;rw [h] at t;rw [h];clear h;by_cases l:nw=0
 ·obtain rfl:=l;by_cases c:nb=0
  ·obtain rfl:=c;have s:=zH (show r=(need != 0) by rw [t.o];rfl);clear t;by_cases n:need=0
   ·obtain rfl:=n;go_in;go_wp2;go_ret;exact ⟨by rw [s.o];rfl,H.o.1.out⟩
   ·have t3:(need == 0)=false:=by simpa using n
    have a:=zH (show r=true by rw [s.o];simpa using n);clear n s;go_in;go_wp2;go_ret;exact ⟨by rw [a.o];rfl,H.o.1.out⟩
  ·have f:((nb:Int) == 0)=false:=sO;have a:=zH (show r=true by rw [t.o,qT (p:=0 < nb) oM];simp);clear c t;go_in;go_wp2;go_ret;exact ⟨by rw [a.o];rfl,H.o.1.out⟩
 ·have f:((nw:Int) == 0)=false:=sO;have a:=zH (show r=true by rw [t.o,qT (p:=0 < nw) oM];simp);clear l t;go_in;go_wp2;go_ret;exact ⟨by rw [a.o];rfl,H.o.1.out⟩
theorem Az {m:Int} {nw nb:Nat} {need cl:Int} (s:0≤m) (h:aU m nw nb need cl=0):1≤nw∧nw≤16384∧nb≤16:=by
 unfold aU at h;split at h
 ·cases h
 split at h
 ·cases h
 split at h
 ·cases h
 rename_i t a e;have o:(nw:Int)=cl*m:=Classical.byContradiction fun q=>e (.inl q);have i:1*1≤cl*m:=Int.mul_le_mul oM oM oM oM;have n:(nb:Int)=cl:=Classical.byContradiction fun q=>e (.inr (.inr q));refine ⟨by omega,by omega,by omega⟩
theorem AS (b:aN) (L:QA) (n A:Nat) (W:QA) (nw p:Nat) (B:QA) (nb cb:Nat) (o:Sh3) (r:Int × Int) (cl:Int) (last:Bool) (w:World)
  (t:dz b L n A W nw p B nb cb (blo w) w) (z:InK .i64 o.1∧InK .i64 o.2.1∧InK .i64 o.2.2) (C:InK .i8 r.1∧InK .i8 r.2) (v:InK .i64 cl) :
  Calls prog 104 #[.agg #[.slice L n A,.bool b.exit,.slice W nw p,.slice B nb cb,.int .i32 b.head.need],.agg (sN o.1 o.2.1 o.2.2),.agg #[.int .i8 r.1,.int .i8 r.2],.int .i64 cl,.bool last] w
   fun e w'=>e=.returned (.int .i64 (eY b o r cl last))∧Below w w w':=by
 have a:=zH (show eY b o r cl last=if b.exit=false then (if last=true ∨ mU nw nb b.head.need=true then 11 else 0)
  else if aU (ag o.1 o.2.1 o.2.2) nw nb b.head.need cl ≠ 0 then aU (ag o.1 o.2.1 o.2.2) nw nb b.head.need cl else gW b.head.w b.head.bias r.1 r.2 by
   unfold eY mT mU;rw [t.hw.n_eq,t.hb.n_eq])
 obtain ⟨g,k,I,j,P,O⟩:=zh6 (fun w=>Aw W nw p B nb cb b.head.need w) (fun w=>lK o.1 o.2.1 o.2.2 W nw p B nb cb b.head.need cl w z.1 z.2.1 z.2.2 (lT t.hw.cap_le t.hw.max_le) (lT t.hb.cap_le t.hb.max_le) v) (fun h=>Az (nw:=nw) (nb:=nb) (need:=b.head.need) (cl:=cl) (aF o.1 o.2.1 o.2.2).1 h) (fun w S t T U R=>rN W nw p b.head.w B nb cb b.head.bias b.head.need r.1 r.2 w S t C.1 C.2 T U R) (Old.now t.hw) (Old.now t.hb);have H:=zW w;obtain ⟨x,D⟩:∃ x,eY b o r cl last=x:=⟨_,rfl⟩;obtain ⟨M,f⟩:∃ x,mU nw nb b.head.need=x:=⟨_,rfl⟩;obtain ⟨q,s⟩:∃ x,aU (ag o.1 o.2.1 o.2.2) nw nb b.head.need cl=x:=⟨_,rfl⟩;obtain ⟨Q,l⟩:∃ x,gW b.head.w b.head.bias r.1 r.2=x:=⟨_,rfl⟩;obtain ⟨J,d⟩:∃ x,b.exit=x:=⟨_,rfl⟩;obtain ⟨need,m⟩:∃ x,b.head.need=x:=⟨_,rfl⟩;rw [D,f,s,l,d] at a;simp only [f] at g;simp only [s] at k I;simp only [l] at j;rw [D,d,m];simp only [m] at g k j;obtain ⟨V,X,Y⟩:=o;obtain ⟨r1,r2⟩:=r;simp only at k j;clear t z C v D f s l d m;obtain ⟨w1,an,E,k1⟩:=nB w #[.slice L n A,.bool J,.slice W nw p,.slice B nb cb,.int .i32 need] 51;replace H:=zN k1 H E;clear E k1;obtain ⟨w2,ah,F,k2⟩:=nB w1 (sN V X Y) 23;replace H:=zN k2 H F;clear F k2;obtain ⟨w3,ad,G,K⟩:=nB w2 #[.int .i8 r1,.int .i8 r2] 201;replace H:=zN K H G;clear G K;have y:=fun i=>H.o.1.1.2.cell i;cases J with
 | false =>
  replace a:=zH (show x=if last=true ∨ M=true then 11 else 0 from a.o);cases last with
  | true =>
   go_in;go_wp2;go_ret;exact ⟨by rw [a.o];rfl,H.o.1.1.1.out⟩
  | false =>
   cases M with
   | true =>
    go_in
    go_wp2_with (go_at_call 131;refine qM (g.o _) fun N t=>?_;replace H:=zF t H;clear t y)
    go_ret;exact ⟨by rw [a.o];rfl,H.o.1.1.1.out⟩
   | false =>
    go_in
    go_wp2_with (go_at_call 131;refine qM (g.o _) fun N t=>?_;replace H:=zF t H;clear t y;have y:=fun i=>H.o.1.1.2.cell i)
    go_ret;exact ⟨by rw [a.o];rfl,H.o.1.1.1.out⟩
 | true =>
  replace a:=zH (show x=if q ≠ 0 then q else Q from a.o);cases last;all_goals
   go_in
   go_wp2_with (first|(refine lG H.o.1.2 ?_))
   refine qM (k.o _) fun N t=>?_;replace H:=zF t H;clear t y;have y:=fun i=>H.o.1.1.2.cell i;by_cases c:q=0
   ·subst c;obtain ⟨Z,q2,q3⟩:=I.o rfl
    go_wp2_with (first|(refine lG H.o.2 ?_))
    refine qM (j.o _ (P.o.fut H.o.1.1.1.out).all (O.o.fut H.o.1.1.1.out).all q2 oM Z) fun w6 t=>?_;replace H:=zF t H;clear t y;go_wp2;go_ret;exact ⟨by rw [a.o];rfl,H.o.1.1.1.out⟩
   ·have t1:(q != 0)=true:=by simpa using c
    rw [if_pos c] at a;clear c;go_wp2;go_ret;exact ⟨by rw [a.o] <;> rfl,H.o.1.1.1.out⟩
theorem Dj {α:Type} {f:af → List α → α × Int} {l:List af} {a:α} (k:Nat):∀ {out:List α},e9 f l a k=.on out → out.length=k+1:=by
 induction k with
 | zero=>intro out h;cases h;rfl
 | succ k ih =>
  intro out h;unfold e9 at h;cases t:e9 f l a k with
  | bad i e=>rw [t] at h;cases h
  | on o =>
   rw [t] at h;simp only at h;split at h
   ·cases h
   ·cases h;simp [ih t]
theorem Ch {α:Type} {f:af → List α → α × Int} {l:List af} {a:α} (k:Nat):∀ {i:Nat} {e:Int},e9 f l a k=.bad i e → e ≠ 0:=by
 induction k with
 | zero=>intro i e h;cases h
 | succ k ih =>
  intro i e h;unfold e9 at h;cases t:e9 f l a k with
  | bad i' e'=>rw [t] at h;cases h;exact ih t
  | on o =>
   rw [t] at h;simp only at h;split at h
   ·rename_i c;cases h;exact c
   ·cases h
theorem tC {l:List af} {a:Int × Int} (h:(da l a).2.2=0):(da l a).1.length=l.length+1:=by
 unfold da at *;by_cases t:l.length=0
 ·rw [if_pos t] at h;cases h
 by_cases o:8 < l.length
 ·rw [if_neg t,if_pos o] at h;cases h
 by_cases s:a.2 < a.1
 ·rw [if_neg t,if_neg o,if_pos s] at h;cases h
 rw [if_neg t,if_neg o,if_neg s] at h ⊢;cases n:e9 ee l a l.length with
 | on out=>exact Dj _ n
 | bad i e=>rw [n] at h;exact absurd h (Ch _ n)
theorem fg {l:List af} {s:Sh3} (h:(ao l s).2.2=0):(ao l s).1.length=l.length+1 :=
 (ly (l:=l) (s:=s) (sl:=(ao l s).1) (p:=(ao l s).2.1) (by rw [← h])).len
theorem aX {α:Type} {l:List α} {i:Nat} {x d:α} (h:l[i]?=some x):l.getD i d=x:=by rw [gD,h];rfl
theorem Dl {h v c i m t:Int} {d:af} (e:(aE h v c i m t d).2=0) (n:bk d.kind=true):1≤d.w.length:=by
 unfold bk at n;have n:d.kind=1 ∨ d.kind=2 ∨ d.kind=3:=by simpa using n
 unfold aE at e;rcases n with k|k|k
 ·rw [if_pos k] at e;unfold bq gI at e;split at e
  ·rename_i c;exact absurd e c
  split at e
  ·cases e
  rename_i o t;obtain ⟨k1,-,l,-,s,-⟩:=eD (Decidable.not_not.1 o);have r:=Int.mul_le_mul (Int.mul_le_mul (Int.mul_le_mul l k1 oM oM) k1 oM (Int.mul_nonneg oM oM)) s oM (Int.mul_nonneg (Int.mul_nonneg oM oM) oM);have i:(d.w.length:Int)=d.out*d.k*d.k*c:=Classical.byContradiction fun q=>t (.inl q);omega
 ·rw [if_neg oM,if_pos k] at e;unfold bF gI at e;split at e
  ·rename_i c;exact absurd e c
  split at e
  ·cases e
  rename_i o t;obtain ⟨k1,-,l,-,s,-⟩:=eD (Decidable.not_not.1 o);have r:=Int.mul_le_mul (Int.mul_le_mul s k1 oM oM) k1 oM (Int.mul_nonneg oM oM);have i:(d.w.length:Int)=c*d.k*d.k:=Classical.byContradiction fun q=>t (.inl q);omega
 ·rw [if_neg oM,if_neg oM,if_pos k] at e;unfold d9 at e;split at e
  ·cases e
  split at e
  ·cases e
  rename_i o t;have f:=eX (h:=1) (v:=1) (c:=d.out) (fun q=>o (.inr q));have y:=aF h v c;have p:ag h v c ≠ 0:=fun q=>o (.inl q);have r:=Int.mul_le_mul (a:=1) (b:=1) (c:=d.out) (d:=ag h v c) oM oM oM oM;have i:(d.w.length:Int)=d.out*ag h v c:=Classical.byContradiction fun q=>t (.inl q);omega
theorem D8 {d:af} {l:List Sh3} (e:(bP d l).2=0) (t:bk d.kind=true):1≤d.w.length:=by
 unfold bP at e;split at e
 ·rename_i c;exact absurd e c
 split at e
 ·cases e
 exact Dl e t
theorem Eb {l:List af} {s:Sh3} (k:Nat):∀ {out:List Sh3},bS l s k=.on out → ∀ i,i < k → ∃ o,(bP (l.getD i aM) o).2=0:=by
 induction k with
 | zero=>intro out _ i hi;exact absurd hi (Nat.not_lt_zero _)
 | succ k ih =>
  intro out h i hi;unfold bS at h;cases a:bS l s k with
  | bad i e=>rw [a] at h;cases h
  | on o =>
   rw [a] at h;simp only at h;split at h
   ·cases h
   ·rename_i c;by_cases t:i < k
    ·exact ih a i t
    ·obtain rfl:i=k:=oM;exact ⟨o,Decidable.not_not.1 c⟩
theorem uw {l:List af} {s:Sh3} (h:(ao l s).2.2=0):∀ d ∈ l,bk d.kind=true → 1≤d.w.length:=by
 intro d r c;obtain ⟨i,hi⟩:=List.getElem?_of_mem r;have t:=(List.getElem?_eq_some_iff.1 hi).1;unfold ao at h;split at h
 ·cases h
 split at h
 ·cases h
 split at h
 ·cases h
 cases a:bS l s l.length with
 | bad j e=>rw [a] at h;exact absurd h (jK _ a)
 | on out =>
  obtain ⟨o,n⟩:=Eb _ a i t;rw [aX hi] at n;exact D8 n c
theorem xV (b:aN) (L:QA) (n c:Nat) (W:QA) (nw F:Nat) (B:QA) (nb cb:Nat) (s:Sh3) (cl:Int) (last:Bool) (w:World)
  (t:dz b L n c W nw F B nb cb (blo w) w) (Q:InK .i64 s.1∧InK .i64 s.2.1∧InK .i64 s.2.2) (G:InK .i64 cl) (S:iu b) :
  Calls prog 78 #[.agg #[.slice L n c,.bool b.exit,.slice W nw F,.slice B nb cb,.int .i32 b.head.need],.agg (sN s.1 s.2.1 s.2.2),.int .i64 cl,.bool last] w
   fun e w'=>e=.returned (.tuple #[.int .i64 (dD b s cl last).1,.int .i64 (dD b s cl last).2])∧Below w w w':=by
 obtain ⟨HN,HB,LN,E,M,C,SW,R⟩:=zh8 (Old.now t.nodes) t t.nodes.n_eq (fun w h=>hZ L n c b.nodes s.1 s.2.1 s.2.2 w h Q.1 Q.2.1 Q.2.2 S.1.2) (fun w h h1=>AX L n c b.nodes (-128) 127 w h dM dM S.1.2 h1) (fun o r w t ho I=>AS b L n c W nw F B nb cb o r cl last w t ho I G) (uw (l:=b.nodes) (s:=s)) (fg (l:=b.nodes) (s:=s));have m:=zH (tC (l:=b.nodes) (a:=(-128,127)));have d:=zH (show dD b s cl last=if (ao b.nodes s).2.2 ≠ 0 then (ao b.nodes s).2 else if (da b.nodes (-128,127)).2.2 ≠ 0 then (da b.nodes (-128,127)).2
  else if eY b ((ao b.nodes s).1.getD b.nodes.length (0,0,0)) ((da b.nodes (-128,127)).1.getD b.nodes.length (0,0)) cl last ≠ 0 then (-1,eY b ((ao b.nodes s).1.getD b.nodes.length (0,0,0)) ((da b.nodes (-128,127)).1.getD b.nodes.length (0,0)) cl last)
  else ((b.nodes.length:Int),0) from rfl)
 obtain ⟨r,I⟩:∃ x,dD b s cl last=x:=⟨_,rfl⟩;obtain ⟨⟨sl,sp,se⟩,k⟩:∃ x,ao b.nodes s=x:=⟨_,rfl⟩;obtain ⟨⟨fl,fp,fe⟩,p⟩:∃ x,da b.nodes (-128,127)=x:=⟨_,rfl⟩;obtain ⟨s1,s2,s3⟩:=s;simp only at E;rw [I,k,p] at d;simp only [LN.o] at d;rw [I];simp only [k] at E SW R;simp only [p] at M m;rw [LN.o] at R m;unfold bv at E;unfold dE at M;simp only at E M;obtain ⟨need,v⟩:∃ x,b.head.need=x:=⟨_,rfl⟩;obtain ⟨ex,f⟩:∃ x,b.exit=x:=⟨_,rfl⟩;rw [v,f];simp only [v,f] at C;have H:=zW w;have mx:n≤9223372036854775807:=lT t.nodes.cap_le t.nodes.max_le;clear t Q G I k p v f S;obtain ⟨w1,an,Y,k1⟩:=nB w #[.slice L n c,.bool ex,.slice W nw F,.slice B nb cb,.int .i32 need] 51;replace H:=zN k1 H Y;clear Y k1;obtain ⟨w2,ah,Z,k2⟩:=nB w1 (sN s1 s2 s3) 23;replace H:=zN k2 H Z;clear Z k2;have D:=fun i=>H.o.1.2.cell i;go_in
 go_wp2_with (refine lG H.o.2 ?_)
 refine (E.o _ (HN.o.fut H.o.1.1.out).all).mono ?_;rintro e w3 ⟨A3,m3,c3,rfl,U,t⟩;obtain ⟨N3,K3⟩:=zh2 (New.of U H.o.1.1) U.n_eq;replace H:=zN t H N3;clear t D U N3;have D:=fun i=>H.o.1.1.2.cell i;by_cases N:se=0;rotate_left
 ·have t1:(se != 0)=true:=by simpa using N
  rw [if_pos N] at d;clear N;go_wp2_with fail
  go_ret2
  exact ⟨by rw [d.o] <;> rfl,H.o.1.1.1.out⟩
 subst N;rw [if_neg dM] at d;go_wp2_with fail;refine (M.o _ (HN.o.fut H.o.1.1.1.out).all (SW.o (by trivial))).mono ?_;rintro e w4 ⟨A4,m4,c4,rfl,V,t⟩;obtain ⟨N4,K4⟩:=zh2 (New.of V H.o.1.1.1) V.n_eq;replace H:=zN t H N4;clear t D V N4;have D:=fun i=>H.o.1.1.1.2.cell i;by_cases O:fe=0;rotate_left
 ·have t2:(fe != 0)=true:=by simpa using O
  rw [if_pos O] at d;clear O;go_wp2_with fail
  go_ret2
  exact ⟨by rw [d.o] <;> rfl,H.o.1.1.1.1.out⟩
 subst O;rw [if_neg dM] at d;have M3:m3=n+1:=by rw [← K3.o];exact R.o (by trivial)
 have M4:m4=n+1:=by rw [← K4.o];exact m.o (by trivial)
 have i3:(n:Int) < (m3:Int):=oM;have i4:(n:Int) < (m4:Int):=oM;obtain ⟨b3,o3,rfl,-,-,j,q,A,-,X⟩:=H.o.1.2.old.shape_at n oM;obtain ⟨y,b4,o4,hy,rfl,-,-,J,K,r4⟩:=H.o.2.old.rg_at n oM;rw [aX hy] at d;obtain ⟨⟨x1,x2,x3⟩,hx⟩:∃ x,sl.getD n (0,0,0)=x:=⟨_,rfl⟩;rw [hx] at d X j q A;obtain ⟨y1,y2⟩:=y;replace C:=zH (fun w t=>C.o (x1,x2,x3) (y1,y2) w t ⟨j,q,A⟩ ⟨J,K⟩);obtain ⟨g,T⟩:∃ g,eY b (x1,x2,x3) (y1,y2) cl last=g:=⟨_,rfl⟩;simp only [T] at C;rw [T] at d;obtain ⟨R0,R3,R4⟩:=zh3 (fun z:Ext w4=>aq (off:=0) (vs:=[.slice L n c,.bool ex,.slice W nw F,.slice B nb cb,.int .i32 need]) (H.o.1.1.1.2.ext z) rfl) (fun z:Ext w4=>de X z.2) (fun z:Ext w4=>de r4 z.2);have c0:∀ z:Ext w4,z.1.cell? ⟨w.heap.size,0,none⟩=some (.slice L n c):=fun z=>(H.o.1.1.1.2.ext z).cell 0;have E1:=zH (fun z:Ext w4=>aB z (C.o z.1 ((HB.o.fut H.o.1.1.1.1.out).fut z.2)));clear M3 M4 X r4 hx hy j q A J K T D C
 go_upto_region 7 with fail
 refine am w4 kM kM (qB _ _) ?_;refine aj kM 51 (.tmp 4) rfl w.heap.size 0 rfl _ _ (by rintro _ ⟨z,rfl⟩;exact R0.o z) underlying51 rfl kM ?_;simp only [pX];go_big_quiet_step (fail);go_big_quiet_step (fail);go_big_quiet_step (fail);go_big_quiet_step (fail);go_big_quiet_step (fail);refine aj kM 23 (.tmp 44) rfl b3 (o3+n*3) rfl _ _ (by rintro _ ⟨z,rfl⟩;exact R3.o z) underlying23 rfl kM ?_;simp only [pX];go_big_quiet_step (fail);go_big_quiet_step (fail);go_big_quiet_step (fail);go_big_quiet_step (fail);go_big_quiet_step (fail);refine aj kM 201 (.tmp 50) rfl b4 (o4+n*2) rfl _ _ (by rintro _ ⟨z,rfl⟩;exact R4.o z) underlying201 rfl kM ?_;simp only [pX];repeat (go_big_quiet_step ((with_reducible exact E1.o _)))
 refine wpQuiet_nil ?_;rintro wa ⟨⟨_,t⟩,rfl⟩;replace H:=zF t H;clear t c0;have D:=fun i=>H.o.1.1.1.2.cell i;by_cases P:g=0
 ·subst P;rw [if_neg dM] at d;go_wp2_with fail
  go_ret2
  exact ⟨by rw [d.o] <;> rfl,H.o.1.1.1.1.out⟩
 ·have t3:(g != 0)=true:=by simpa using P
  rw [if_pos P] at d;clear P;go_wp2_with fail
  go_ret2
  exact ⟨by rw [d.o] <;> rfl,H.o.1.1.1.1.out⟩
def elS (s:Sh3):Int:=ag s.1 s.2.1 s.2.2
def shN (d:af) (x y:Sh3):ShE:=aE x.1 x.2.1 x.2.2 y.1 y.2.1 y.2.2 d
def gB (d:af) (m:Int) (x:Sh3):Int :=
 if d.kind=1 then m*d.k*d.k*x.2.2 else if d.kind=2 ∨ d.kind=4 ∨ d.kind=5 then m*d.k*d.k else if d.kind=3 then m*elS x else m
def fx (d:af) (x y:Sh3):Int:=if (shN d x y).2 ≠ 0 then 0 else gB d (elS (shN d x y).1) x
theorem iO (s:Sh3):0≤elS s∧elS s≤1024:=aF _ _ _
theorem tA {x:ShE} {e out:Int} {d:af} (h:(gI x e out d).2=0):x.2=0:=by
 unfold gI at h;split at h
 ·rename_i c;exact absurd h c
 ·rename_i c;exact Decidable.not_not.1 c
theorem sP {d:af} {x y:Sh3} (h:(shN d x y).2=0):((d.kind=1 ∨ d.kind=2 ∨ d.kind=4 ∨ d.kind=5) → 1≤d.k∧d.k≤5)∧(d.kind=1 → 1≤x.2.2∧x.2.2≤1024):=by
 unfold shN aE at h;by_cases k1:d.kind=1
 ·rw [if_pos k1] at h;obtain ⟨a,b,-,-,e,f⟩:=eD (tA h);exact ⟨fun _=>⟨a,b⟩,fun _=>⟨e,f⟩⟩
 rw [if_neg k1] at h;by_cases k2:d.kind=2
 ·rw [if_pos k2] at h;obtain ⟨a,b,-⟩:=eD (tA h);exact ⟨fun _=>⟨a,b⟩,fun q=>absurd q k1⟩
 rw [if_neg k2] at h;by_cases t:d.kind=3
 ·exact ⟨fun _=>by omega,fun q=>absurd q k1⟩
 rw [if_neg t] at h;by_cases o:d.kind=4 ∨ d.kind=5
 ·rw [if_pos o] at h;obtain ⟨a,b,-⟩:=eD h;exact ⟨fun _=>⟨a,b⟩,fun q=>absurd q k1⟩
 ·exact ⟨fun _=>by omega,fun q=>absurd q k1⟩
theorem ez {a b m n:Int} (t:0≤a) (o:a≤m) (e:0≤b) (i:b≤n) (s:0≤m):0≤a*b∧a*b≤m*n:=⟨Int.mul_nonneg t e,Int.mul_le_mul o i e s⟩
theorem nQ (d:af) (x y:Sh3):0≤fx d x y∧fx d x y≤26214400:=by
 unfold fx;split
 ·omega
 rename_i c;obtain ⟨i,s⟩:=sP (Decidable.not_not.1 c);have a:=iO (shN d x y).1;unfold gB;split
 ·rename_i k1;have:=i oM;have q:=s k1;have t:=ez a.1 a.2 (b:=d.k) (n:=5) oM oM oM;have o:=ez t.1 t.2 (b:=d.k) (n:=5) oM oM oM;have h:=ez o.1 o.2 (b:=x.2.2) (n:=1024) oM oM oM;omega
 split
 ·rename_i k1;have:=i oM;have t:=ez a.1 a.2 (b:=d.k) (n:=5) oM oM oM;have o:=ez t.1 t.2 (b:=d.k) (n:=5) oM oM oM;omega
 split
 ·have e:=iO x;have t:=ez a.1 a.2 (b:=elS x) (n:=1024) oM oM oM;omega
 ·omega
def fH (l:List af) (sl:List Sh3):Nat → Int
 | 0=>1
 | k+1=>fH l sl k+fx (l.getD k aM) (sl.getD (l.getD k aM).a.toNat (0,0,0)) (sl.getD (ar (l.getD k aM)).toNat (0,0,0))
theorem jq (l:List af) (sl:List Sh3):∀ k,1≤fH l sl k∧fH l sl k≤1+k*26214400
 | 0=>by unfold fH;omega
 | k+1=>by
  have h:=jq l sl k;have:=nQ (l.getD k aM) (sl.getD (l.getD k aM).a.toNat (0,0,0)) (sl.getD (ar (l.getD k aM)).toNat (0,0,0));unfold fH;omega
theorem ru {l:List af} {sl:List Sh3} {k:Nat} {d:af} (h:l[k]?=some d):fH l sl (k+1)=fH l sl k+fx d (sl.getD d.a.toNat (0,0,0)) (sl.getD (ar d).toNat (0,0,0)):=by
 have e:l.getD k aM=d:=aX h;show fH l sl k+fx (l.getD k aM) _ _=_;rw [e]
def iF (b:aN) (out:Sh3) (cl:Int):Int:=if b.exit=true then min (max cl 0) 16*(elS out+1) else 0
def dC (b:aN) (s:Sh3) (cl:Int):Int:=fH b.nodes (ao b.nodes s).1 b.nodes.length+iF b (cQ b s) cl
def dW (m:List aN) (s:Sh3) (cl:Int):List Int:=(List.range m.length).map fun i=>dC (m.getD i eA) (inV m s i) cl
def aO (u:Bun):List (List Int):=u.models.map fun m=>dW m (u.h,u.v,u.c) u.cl
def gJ (m:List aN) (s:Sh3):List Sh3:=(List.range (m.length+1)).map fun i=>inV m s i
def fT (u:Bun):List (List Sh3):=u.models.map fun m=>gJ m (u.h,u.v,u.c)
theorem AM (b:aN) (out:Sh3) (cl:Int):0≤iF b out cl∧iF b out cl≤16400:=by
 unfold iF;split
 ·have e:=iO out;have:=ez (a:=min (max cl 0) 16) (b:=elS out+1) (m:=16) (n:=1025) oM oM oM oM oM;omega
 ·omega
structure xZ (d:af) (n:Nat):Prop where
 kind:1≤d.kind∧d.kind≤9
 a:0≤d.a∧d.a < n
 b:0≤ar d∧ar d < n
theorem zV {l:List af} {s:Sh3} (k:Nat):∀ {out:List Sh3},bS l s k=.on out → ∀ i,i < k → xZ (l.getD i aM) (i+1):=by
 induction k with
 | zero=>intro out _ i hi;exact absurd hi (Nat.not_lt_zero _)
 | succ k ih =>
  intro out h i hi;unfold bS at h;cases t:bS l s k with
  | bad i e=>rw [t] at h;cases h
  | on o =>
   rw [t] at h;simp only at h;split at h
   ·cases h
   ·rename_i c;by_cases a:i < k
    ·exact ih t i a
    ·obtain rfl:i=k:=oM;have c:=Decidable.not_not.1 c;have w:=(gO _ t).len;have n:=iI c;rw [w] at n;obtain ⟨r,d,m,f⟩:=fJ n;unfold bP at c;split at c
     ·rename_i q;exact absurd c q
     ·rename_i q;exact ⟨kP (Decidable.not_not.1 q),⟨r,by simpa using d⟩,⟨m,by simpa using f⟩⟩
theorem nG {l:List af} {s:Sh3} (h:(ao l s).2.2=0) {i:Nat} {d:af} (n:l[i]?=some d):xZ d (l.length+1):=by
 have t:=(List.getElem?_eq_some_iff.1 n).1;unfold ao at h;split at h
 ·cases h
 split at h
 ·cases h
 split at h
 ·cases h
 cases o:bS l s l.length with
 | bad j e=>rw [o] at h;exact absurd h (jK _ o)
 | on out =>
  have:=zV _ o i t;rw [aX n] at this;exact ⟨this.kind,⟨this.a.1,by have:=this.a.2;omega⟩,⟨this.b.1,by have:=this.b.2;omega⟩⟩
theorem ie {l:List af} {s:Sh3} (h:(ao l s).2.2=0):1≤l.length∧l.length≤8:=by
 unfold ao at h;split at h
 ·cases h
 split at h
 ·cases h
 split at h
 ·cases h
 omega
theorem ml {d:af} {x y:Sh3} (h:(shN d x y).2=0):InK .i64 (shN d x y).1.1∧InK .i64 (shN d x y).1.2.1∧InK .i64 (shN d x y).1.2.2:=by
 have g:=nE h;have e:=g.h;have t:=g.v;have a:=g.c;simp only [ai];show (_∧_)∧(_∧_)∧_;unfold shN;omega
structure Ek (m k c a1 a2 a3:Int):Prop where
 e1:IntKind.i64.wrap (m*k)=a1
 e2:IntKind.i64.wrap (a1*k)=a2
 e3:IntKind.i64.wrap (a2*c)=a3
theorem sK {m k c:Int} (s:0≤m∧m≤1024) (d:1≤k∧k≤5) (i:0≤c∧c≤1024):∃ h e t,Ek m k c h e t∧e=m*k*k∧t=m*k*k*c:=by
 have a:=ez s.1 s.2 (b:=k) (n:=5) oM oM oM;have o:=ez a.1 a.2 (b:=k) (n:=5) oM oM oM;have r:=ez o.1 o.2 i.1 i.2 oM;exact ⟨_,_,_,⟨wJ,wJ,wJ⟩,rfl,rfl⟩
theorem Cu (d:af) (W:QA) (nw p:Nat) (B:QA) (nb cb:Nat) (x y:Sh3) (w:World) (M:aQ d) (l:InK .i64 x.1∧InK .i64 x.2.1∧InK .i64 x.2.2) (O:nw=d.w.length) (t:nb=d.bias.length) (S:nw≤1048576) (R:nb≤1048576) (i:d.kind=1) (r:(shN d x y).2=0) :
  Calls prog 133 #[.agg (sN x.1 x.2.1 x.2.2),.agg (nD d W nw p B nb cb)] w fun e w'=>e=.returned (.int .i64 (gB d (elS (shN d x y).1) x))∧Below w w w':=by
 have J:shN d x y=bq x.1 x.2.1 x.2.2 d:=by unfold shN aE;rw [if_pos i]
 have a:=zH (fun w=>eh x.1 x.2.1 x.2.2 d W nw p B nb cb w l.1 l.2.1 l.2.2 M.out O t S R);simp only [← J] at a;have s:=ml r;have f:=sP r;have c:=zH (fun w=>bL (shN d x y).1.1 (shN d x y).1.2.2 (shN d x y).1.2.1 w s.1 s.2.1 s.2.2);obtain ⟨a1,a2,Z,h,-,L⟩:=sK (iO (shN d x y).1) (f.1 (.inl i)) (show 0≤x.2.2∧x.2.2≤1024 by have:=f.2 i;omega);have G:=zH (show gB d (elS (shN d x y).1) x=Z by unfold gB;rw [if_pos i,L]);rw [G.o];unfold elS at h;obtain ⟨⟨⟨v,b,g⟩,ye⟩,P⟩:∃ q,shN d x y=q:=⟨_,rfl⟩;simp only [P] at a r c h;subst r;simp only [aY] at a;obtain ⟨m,N⟩:∃ m,ag v b g=m:=⟨_,rfl⟩;simp only [N] at c h;obtain ⟨e1,e2,e3⟩:=h;obtain ⟨x1,x2,V⟩:=x;simp only at e3 a;have H:=zW w;clear M l O t S R i J s f L G P N;obtain ⟨T,j,D,k1⟩:=nB w (sN x1 x2 V) 23;replace H:=zN k1 H D;clear D k1;obtain ⟨w2,A,E,k2⟩:=nB T (nD d W nw p B nb cb) 84;replace H:=zN k2 H E;clear E k2;go_in
 go_wp2_with (first|(refine lG H.o.1.2 ?_)|(refine lG H.o.2 ?_))
 refine qM (a.o _) fun U t=>?_;replace H:=zF t H;clear t j A;have l3:=H.o.2.lt;have l2:=H.o.1.2.lt;obtain ⟨w4,C,F,Q⟩:=nB U (sN 0 0 0) 23;replace H:=zN Q H F;clear F Q
 go_upto_region 4 with (refine sG (sN v b g) H.o.2 ?_;intro n I K;replace H:=zS K I H;clear K I C)
 obtain ⟨Y,X⟩:=zh2 (fun z:Ext n=>aq (off:=0) (vs:=[.int .i64 v,.int .i64 b,.int .i64 g]) (H.o.2.ext z) rfl) (fun z:Ext n=>aB z (c.o z.1));have c3:∀ z:Ext n,z.1.cell? ⟨T.heap.size,3,none⟩=some (.int .i64 d.k):=fun z=>(H.o.1.2.ext z).cell 3;have c2:∀ z:Ext n,z.1.cell? ⟨w.heap.size,2,none⟩=some (.int .i64 V):=fun z=>(H.o.1.1.2.ext z).cell 2;refine am n kM kM (qB _ _) ?_;refine aj kM 23 (.tmp 5) rfl U.heap.size 0 rfl _ _ (by rintro _ ⟨z,rfl⟩;exact Y.o z) underlying23 rfl kM ?_;simp only [pX];repeat (go_big_quiet_step ((with_reducible exact X.o _)))
 refine wpQuiet_nil ?_;rintro wa ⟨⟨_,t⟩,rfl⟩;replace H:=zF t H;clear t;go_wp2;go_ret;exact ⟨rfl,H.o.1.1.1.out⟩
theorem te (d:af) (W:QA) (nw T:Nat) (B:QA) (nb cb:Nat) (x y:Sh3) (w:World) (U:aQ d) (C:InK .i64 x.1∧InK .i64 x.2.1∧InK .i64 x.2.2) (hw:nw=d.w.length) (t:nb=d.bias.length) (mw:nw≤1048576) (mb:nb≤1048576) (X:1≤d.kind∧d.kind≤9) :
  Calls prog 105 #[.agg (nD d W nw T B nb cb),.agg (sN x.1 x.2.1 x.2.2),.agg (sN y.1 y.2.1 y.2.2)] w fun e w'=>e=.returned (.int .i64 (fx d x y))∧Below w w w':=by
 obtain ⟨M,I,a,L,g,N,E,A⟩:=zh8 (fun w=>o6 x.1 x.2.1 x.2.2 y.1 y.2.1 y.2.2 d W nw T B nb cb w C.1 C.2.1 C.2.2 U.out U.p hw t mw mb X) (fun w=>bL x.1 x.2.2 x.2.1 w C.1 C.2.1 C.2.2) (show fx d x y=if (shN d x y).2 ≠ 0 then 0 else gB d (elS (shN d x y).1) x from rfl) (ml (d:=d) (x:=x) (y:=y)) (sP (d:=d) (x:=x) (y:=y)) (fun w hk V=>Cu d W nw T B nb cb x y w U C hw t mw mb hk V) (iO x) (iO (shN d x y).1);obtain ⟨r,Z⟩:∃ r,fx d x y=r:=⟨_,rfl⟩;rw [Z] at a;rw [Z];rw [show aE x.1 x.2.1 x.2.2 y.1 y.2.1 y.2.2 d=shN d x y from rfl] at M;have H:=zW w;obtain ⟨⟨⟨f,v,b⟩,se⟩,V⟩:∃ q,shN d x y=q:=⟨_,rfl⟩;simp only [V] at M a L g A N;simp only [aY] at M;unfold elS at A E;obtain ⟨m,Q⟩:∃ m,ag f v b=m:=⟨_,rfl⟩;obtain ⟨mx,F⟩:∃ m,ag x.1 x.2.1 x.2.2=m:=⟨_,rfl⟩;rw [show elS (f,v,b)=m from Q] at a;rw [show elS (f,v,b)=m from Q] at N;simp only [Q] at A;simp only [F] at I E;obtain ⟨D,z⟩:=zh2 (show gB d m x=if d.kind=1 then m*d.k*d.k*x.2.2 else if d.kind=2 ∨ d.kind=4 ∨ d.kind=5 then m*d.k*d.k else if d.kind=3 then m*mx else m by unfold gB elS;rw [F]) (fun h=>show ∀ w,Calls prog 85 #[.agg (sN f v b)] w fun e w'=>e=.returned (.int .i64 m)∧Below w w w' from fun w=>by have:=bL f b v w (L.o h).1 (L.o h).2.1 (L.o h).2.2;rw [Q] at this;exact this);obtain ⟨x1,x2,x3⟩:=x;obtain ⟨y1,y2,y3⟩:=y;simp only at M I D g;clear U C hw t mw mb Z V Q F L;obtain ⟨w1,an,B1,k1⟩:=nB w (nD d W nw T B nb cb) 84;replace H:=zN k1 H B1;clear B1 k1;obtain ⟨w2,ah,B2,k2⟩:=nB w1 (sN x1 x2 x3) 23;replace H:=zN k2 H B2;clear B2 k2;obtain ⟨w3,ad,B3,j⟩:=nB w2 (sN y1 y2 y3) 23;replace H:=zN j H B3;clear B3 j;go_in
 go_wp2_with (first|(refine lG H.o.1.1.2 ?_)|(refine lG H.o.1.2 ?_)|(refine lG H.o.2 ?_))
 refine qM (M.o _) fun w4 t=>?_;replace H:=zF t H;clear t an ah ad;have l4:=H.o.1.1.2.lt;have l5:=H.o.1.2.lt;have l6:=H.o.2.lt;have l7:=H.o.1.1.1.size;obtain ⟨w5,l,B5,k5⟩:=nB w4 (sN 0 0 0) 23;replace H:=zN k5 H B5;clear B5 k5;by_cases S:se=0;rotate_left
 ·have t0:(se != 0)=true:=by simpa using S
  rw [if_pos S] at a;clear S
  go_wp2_with (refine sG (sN f v b) H.o.2 ?_;intro K n s;replace H:=zS s n H;clear s n l)
  go_ret;exact ⟨by rw [a.o] <;> rfl,H.o.1.1.1.1.out⟩
 subst S;rw [if_neg dM,D.o] at a;replace z:=zH (z.o (by trivial));replace g:=zH (g.o (by trivial));have G:=A.o;have J:=E.o;by_cases k1:d.kind=1
 ·have al:(d.kind == 1)=true:=by simp [k1]
  rw [if_pos k1] at a;have RV:=zH (a.o.trans (show m*d.k*d.k*x3=gB d m (x1,x2,x3) by rw [D.o,if_pos k1]));replace N:=zH (fun w=>N.o w k1 rfl);clear g a D I A E G J k1
  go_wp2_with (first|(refine sG (sN f v b) H.o.2 ?_;intro K n s;replace H:=zS s n H;clear s n l)|(refine lG H.o.2 ?_)|(go_at_call 85;with_reducible refine (z.o _).mono ?_;rintro e R ⟨rfl,t⟩;replace H:=zF t H;clear t;have O:=fun i=>H.o.1.1.1.2.cell i;have P:=fun i=>H.o.1.1.2.cell i)|(refine lG H.o.1.1.2 ?_)|(refine lG H.o.1.1.1.2 ?_)|(go_at_call 133;with_reducible refine (N.o _).mono ?_;rintro e w8 ⟨rfl,t⟩;replace H:=zF t H;clear t))
  go_ret;exact ⟨by rw [RV.o] <;> rfl,H.o.1.1.1.1.out⟩
 have n1:(d.kind == 1)=false:=by simpa using k1
 rw [if_neg k1] at a;by_cases k2:d.kind=2 ∨ d.kind=4 ∨ d.kind=5
 ·rw [if_pos k2] at a;obtain ⟨a1,a2,a3,⟨e1,e2,-⟩,h2,-⟩:=sK G (g.o.1 (.inr k2)) (c:=0) oM;rw [← h2] at a;clear g D I A E G J k1 h2;rcases k2 with k2|k2|k2
  ·have n2:(d.kind == 2)=true:=by rw [k2];rfl
   have n4:(d.kind == 4)=false:=by rw [k2];rfl
   have n5:(d.kind == 5)=false:=by rw [k2];rfl
   clear k2
   go_wp2_with (first|(refine sG (sN f v b) H.o.2 ?_;intro K n s;replace H:=zS s n H;clear s n l)|(refine lG H.o.2 ?_)|(go_at_call 85;with_reducible refine (z.o _).mono ?_;rintro e R ⟨rfl,t⟩;replace H:=zF t H;clear t;have O:=fun i=>H.o.1.1.1.2.cell i;have P:=fun i=>H.o.1.1.2.cell i))
   go_ret;exact ⟨by rw [a.o] <;> rfl,H.o.1.1.1.1.out⟩
  ·have n2:(d.kind == 2)=false:=by rw [k2];rfl
   have n4:(d.kind == 4)=true:=by rw [k2];rfl
   have n5:(d.kind == 5)=false:=by rw [k2];rfl
   clear k2
   go_wp2_with (first|(refine sG (sN f v b) H.o.2 ?_;intro K n s;replace H:=zS s n H;clear s n l)|(refine lG H.o.2 ?_)|(go_at_call 85;with_reducible refine (z.o _).mono ?_;rintro e R ⟨rfl,t⟩;replace H:=zF t H;clear t;have O:=fun i=>H.o.1.1.1.2.cell i;have P:=fun i=>H.o.1.1.2.cell i))
   go_ret;exact ⟨by rw [a.o] <;> rfl,H.o.1.1.1.1.out⟩
  ·have n2:(d.kind == 2)=false:=by rw [k2];rfl
   have n4:(d.kind == 4)=false:=by rw [k2];rfl
   have n5:(d.kind == 5)=true:=by rw [k2];rfl
   clear k2
   go_wp2_with (first|(refine sG (sN f v b) H.o.2 ?_;intro K n s;replace H:=zS s n H;clear s n l)|(refine lG H.o.2 ?_)|(go_at_call 85;with_reducible refine (z.o _).mono ?_;rintro e R ⟨rfl,t⟩;replace H:=zF t H;clear t;have O:=fun i=>H.o.1.1.1.2.cell i;have P:=fun i=>H.o.1.1.2.cell i))
   go_ret;exact ⟨by rw [a.o] <;> rfl,H.o.1.1.1.1.out⟩
 rw [if_neg k2] at a;have n2:(d.kind == 2)=false:=sO;have n4:(d.kind == 4)=false:=sO;have n5:(d.kind == 5)=false:=sO;by_cases j:d.kind=3
 ·have n3:(d.kind == 3)=true:=by simp [j]
  rw [if_pos j] at a;have b1:=ez G.1 G.2 J.1 J.2 oM;obtain ⟨p,Y⟩:∃ p,m*mx=p:=⟨_,rfl⟩;have e1:IntKind.i64.wrap (m*mx)=p:=by rw [← Y];exact wJ
  rw [Y] at a;clear g D A E G J k1 k2 j Y b1
  go_wp2_with (first|(refine sG (sN f v b) H.o.2 ?_;intro K n s;replace H:=zS s n H;clear s n l)|(refine lG H.o.2 ?_)|(go_at_call 85;with_reducible refine (z.o _).mono ?_;rintro e R ⟨rfl,t⟩;replace H:=zF t H;clear t;have O:=fun i=>H.o.1.1.1.2.cell i;have P:=fun i=>H.o.1.1.2.cell i)|(refine lG H.o.1.1.2 ?_)|(go_at_call 85;with_reducible refine (I.o _).mono ?_;rintro e w8 ⟨rfl,t⟩;replace H:=zF t H;clear t))
  go_ret;exact ⟨by rw [a.o] <;> rfl,H.o.1.1.1.1.out⟩
 ·have n3:(d.kind == 3)=false:=by simpa using j
  rw [if_neg j] at a;clear g D I A E G J k1 k2 j
  go_wp2_with (first|(refine sG (sN f v b) H.o.2 ?_;intro K n s;replace H:=zS s n H;clear s n l)|(refine lG H.o.2 ?_)|(go_at_call 85;with_reducible refine (z.o _).mono ?_;rintro e R ⟨rfl,t⟩;replace H:=zF t H;clear t;have O:=fun i=>H.o.1.1.1.2.cell i;have P:=fun i=>H.o.1.1.2.cell i))
  go_ret;exact ⟨by rw [a.o] <;> rfl,H.o.1.1.1.1.out⟩
theorem rY (d:af) (W:QA) (nw S:Nat) (B:QA) (nb cb:Nat) (x y:Sh3) (w:World) (T:aQ d) (F:InK .i64 x.1∧InK .i64 x.2.1∧InK .i64 x.2.2) (hw:nw=d.w.length) (t:nb=d.bias.length) (mw:nw≤1048576) (mb:nb≤1048576) (U:1≤d.kind∧d.kind≤9) :
  Calls prog 67 #[.agg (nD d W nw S B nb cb),.agg (sN x.1 x.2.1 x.2.2),.agg (sN y.1 y.2.1 y.2.2)] w fun e w'=>e=.returned (.int .i64 (fx d x y))∧Below w w w':=by
 obtain ⟨M,I,a,L,f,D,A⟩:=zh7 (fun w=>nr x.1 x.2.1 x.2.2 y.1 y.2.1 y.2.2 d W nw S B nb cb w F.1 F.2.1 F.2.2 T.out T.p hw t mw mb U) (fun w=>bX x.1 x.2.2 x.2.1 w F.1 F.2.1 F.2.2) (show fx d x y=if (shN d x y).2 ≠ 0 then 0 else gB d (elS (shN d x y).1) x from rfl) (ml (d:=d) (x:=x) (y:=y)) (sP (d:=d) (x:=x) (y:=y)) (iO x) (iO (shN d x y).1);obtain ⟨r,X⟩:∃ r,fx d x y=r:=⟨_,rfl⟩;rw [X] at a;rw [X];rw [show aE x.1 x.2.1 x.2.2 y.1 y.2.1 y.2.2 d=shN d x y from rfl] at M;have H:=zW w;obtain ⟨⟨⟨v,b,g⟩,se⟩,hs⟩:∃ q,shN d x y=q:=⟨_,rfl⟩;simp only [hs] at M a L f A;simp only [aY] at M;unfold elS at A D;obtain ⟨m,R⟩:∃ m,ag v b g=m:=⟨_,rfl⟩;obtain ⟨Y,E⟩:∃ m,ag x.1 x.2.1 x.2.2=m:=⟨_,rfl⟩;rw [show elS (v,b,g)=m from R] at a
 skip
 simp only [R] at A;simp only [E] at I D;obtain ⟨G,z⟩:=zh2 (show gB d m x=if d.kind=1 then m*d.k*d.k*x.2.2 else if d.kind=2 ∨ d.kind=4 ∨ d.kind=5 then m*d.k*d.k else if d.kind=3 then m*Y else m by unfold gB elS;rw [E]) (fun h=>show ∀ w,Calls prog 47 #[.agg (sN v b g)] w fun e w'=>e=.returned (.int .i64 m)∧Below w w w' from fun w=>by have:=bX v g b w (L.o h).1 (L.o h).2.1 (L.o h).2.2;rw [R] at this;exact this);obtain ⟨x1,x2,x3⟩:=x;obtain ⟨y1,y2,y3⟩:=y;simp only at M I G f;clear T F hw t mw mb X hs R E L;obtain ⟨w1,an,B1,k1⟩:=nB w (nD d W nw S B nb cb) 84;replace H:=zN k1 H B1;clear B1 k1;obtain ⟨w2,ah,B2,k2⟩:=nB w1 (sN x1 x2 x3) 23;replace H:=zN k2 H B2;clear B2 k2;obtain ⟨w3,ad,B3,j⟩:=nB w2 (sN y1 y2 y3) 23;replace H:=zN j H B3;clear B3 j;go_in
 go_wp2_with (first|(refine lG H.o.1.1.2 ?_)|(refine lG H.o.1.2 ?_)|(refine lG H.o.2 ?_))
 refine qM (M.o _) fun w4 t=>?_;replace H:=zF t H;clear t an ah ad;have l4:=H.o.1.1.2.lt;have l5:=H.o.1.2.lt;have l6:=H.o.2.lt;have l7:=H.o.1.1.1.size;obtain ⟨w5,l,B5,k5⟩:=nB w4 (sN 0 0 0) 23;replace H:=zN k5 H B5;clear B5 k5;by_cases Q:se=0;rotate_left
 ·have t0:(se != 0)=true:=by simpa using Q
  rw [if_pos Q] at a;clear Q
  go_wp2_with (refine sG (sN v b g) H.o.2 ?_;intro K n s;replace H:=zS s n H;clear s n l)
  go_ret;exact ⟨by rw [a.o] <;> rfl,H.o.1.1.1.1.out⟩
 subst Q;rw [if_neg dM,G.o] at a;replace z:=zH (z.o (by trivial));replace f:=zH (f.o (by trivial));have C:=A.o;have J:=D.o;by_cases k1:d.kind=1
 ·have al:(d.kind == 1)=true:=by simp [k1]
  rw [if_pos k1] at a;obtain ⟨a1,a2,a3,⟨e1,e2,e3⟩,-,h3⟩:=sK C (f.o.1 (.inl k1)) (show 0≤x3∧x3≤1024 by have:=f.o.2 k1;omega);rw [← h3] at a;clear f G I A D C J k1 h3
  go_wp2_with (first|(refine sG (sN v b g) H.o.2 ?_;intro K n s;replace H:=zS s n H;clear s n l)|(refine lG H.o.2 ?_)|(go_at_call 47;with_reducible refine (z.o _).mono ?_;rintro e P ⟨rfl,t⟩;replace H:=zF t H;clear t;have N:=fun i=>H.o.1.1.1.2.cell i;have O:=fun i=>H.o.1.1.2.cell i))
  go_ret;exact ⟨by rw [a.o] <;> rfl,H.o.1.1.1.1.out⟩
 have n1:(d.kind == 1)=false:=by simpa using k1
 rw [if_neg k1] at a;by_cases k2:d.kind=2 ∨ d.kind=4 ∨ d.kind=5
 ·rw [if_pos k2] at a;obtain ⟨a1,a2,a3,⟨e1,e2,-⟩,h2,-⟩:=sK C (f.o.1 (.inr k2)) (c:=0) oM;rw [← h2] at a;clear f G I A D C J k1 h2;rcases k2 with k2|k2|k2
  ·have Z:(d.kind == 2)=true:=by rw [k2];rfl
   have n4:(d.kind == 4)=false:=by rw [k2];rfl
   have n5:(d.kind == 5)=false:=by rw [k2];rfl
   clear k2
   go_wp2_with (first|(refine sG (sN v b g) H.o.2 ?_;intro K n s;replace H:=zS s n H;clear s n l)|(refine lG H.o.2 ?_)|(go_at_call 47;with_reducible refine (z.o _).mono ?_;rintro e P ⟨rfl,t⟩;replace H:=zF t H;clear t;have N:=fun i=>H.o.1.1.1.2.cell i;have O:=fun i=>H.o.1.1.2.cell i))
   go_ret;exact ⟨by rw [a.o] <;> rfl,H.o.1.1.1.1.out⟩
  ·have Z:(d.kind == 2)=false:=by rw [k2];rfl
   have n4:(d.kind == 4)=true:=by rw [k2];rfl
   have n5:(d.kind == 5)=false:=by rw [k2];rfl
   clear k2
   go_wp2_with (first|(refine sG (sN v b g) H.o.2 ?_;intro K n s;replace H:=zS s n H;clear s n l)|(refine lG H.o.2 ?_)|(go_at_call 47;with_reducible refine (z.o _).mono ?_;rintro e P ⟨rfl,t⟩;replace H:=zF t H;clear t;have N:=fun i=>H.o.1.1.1.2.cell i;have O:=fun i=>H.o.1.1.2.cell i))
   go_ret;exact ⟨by rw [a.o] <;> rfl,H.o.1.1.1.1.out⟩
  ·have Z:(d.kind == 2)=false:=by rw [k2];rfl
   have n4:(d.kind == 4)=false:=by rw [k2];rfl
   have n5:(d.kind == 5)=true:=by rw [k2];rfl
   clear k2
   go_wp2_with (first|(refine sG (sN v b g) H.o.2 ?_;intro K n s;replace H:=zS s n H;clear s n l)|(refine lG H.o.2 ?_)|(go_at_call 47;with_reducible refine (z.o _).mono ?_;rintro e P ⟨rfl,t⟩;replace H:=zF t H;clear t;have N:=fun i=>H.o.1.1.1.2.cell i;have O:=fun i=>H.o.1.1.2.cell i))
   go_ret;exact ⟨by rw [a.o] <;> rfl,H.o.1.1.1.1.out⟩
 rw [if_neg k2] at a;have Z:(d.kind == 2)=false:=sO;have n4:(d.kind == 4)=false:=sO;have n5:(d.kind == 5)=false:=sO;by_cases j:d.kind=3
 ·have n3:(d.kind == 3)=true:=by simp [j]
  rw [if_pos j] at a;have b1:=ez C.1 C.2 J.1 J.2 oM;obtain ⟨p,V⟩:∃ p,m*Y=p:=⟨_,rfl⟩;have e1:IntKind.i64.wrap (m*Y)=p:=by rw [← V];exact wJ
  rw [V] at a;clear f G A D C J k1 k2 j V b1
  go_wp2_with (first|(refine sG (sN v b g) H.o.2 ?_;intro K n s;replace H:=zS s n H;clear s n l)|(refine lG H.o.2 ?_)|(go_at_call 47;with_reducible refine (z.o _).mono ?_;rintro e P ⟨rfl,t⟩;replace H:=zF t H;clear t;have N:=fun i=>H.o.1.1.1.2.cell i;have O:=fun i=>H.o.1.1.2.cell i)|(refine lG H.o.1.1.2 ?_)|(go_at_call 47;with_reducible refine (I.o _).mono ?_;rintro e w8 ⟨rfl,t⟩;replace H:=zF t H;clear t))
  go_ret;exact ⟨by rw [a.o] <;> rfl,H.o.1.1.1.1.out⟩
 ·have n3:(d.kind == 3)=false:=by simpa using j
  rw [if_neg j] at a;clear f G I A D C J k1 k2 j
  go_wp2_with (first|(refine sG (sN v b g) H.o.2 ?_;intro K n s;replace H:=zS s n H;clear s n l)|(refine lG H.o.2 ?_)|(go_at_call 47;with_reducible refine (z.o _).mono ?_;rintro e P ⟨rfl,t⟩;replace H:=zF t H;clear t;have N:=fun i=>H.o.1.1.1.2.cell i;have O:=fun i=>H.o.1.1.2.cell i))
  go_ret;exact ⟨by rw [a.o] <;> rfl,H.o.1.1.1.1.out⟩
end Go.Proofs.YtbecbfpoahhpnaaGreat
namespace Go.Proofs.YtbecbfpoahhpnaaGreat
open Tryz
open Go.RowKit Go.Shelf
theorem vV (w:World) (S:Nat → Prop):∀ xs:List I8,RowsOf (ab .i8) w S (xs.map fun x=>Value.int .i8 x.1) (xs.map fun x=>x.1)
 | []=>rfl
 | x :: xs=>⟨[Value.int .i8 x.1],xs.map fun x=>Value.int .i8 x.1,rfl,⟨rfl,x.2⟩,vV w S xs⟩
theorem C4:(prog.info? 80).map (fun i=>(i.zero,i.size,i.bytes))=some (some (.int .i8 0),1,1):=by kernel_rfl
section
attribute [local go_sem] Oper.semAt_some
theorem wh (n gf:Nat) (T:5≤n) (lb:Array Value) (xs:List I8) (N:Nat) (E:List I8 → Prop) (w:World) (S:N≤1000)
  (G:∀ o w,(callFunc gf o).run prog w=.ok (.enter gf o) w)
  (f:SeqStopsK Fence.wide (n - 1) prog gf lb e8 (Below w.heap.size) (fun C=>C=xs) E N w) :
  CallsIn Fence.wide n prog 213 #[.slice none 0 0,.func (.func gf) #[] lb] w fun e A=>∃ v,e=.returned v∧A.ownsRow w.heap.size 80 1 v xs.length (xs.map fun x=>Value.int .i8 x.1)∧Below w w A:=by
 have H:1≤n:=oM;obtain ⟨Q,hi,j,q,z⟩:=info_parts C4;refine callsIn_of_wp_marks func213 rfl trivial ?_ rfl;simp only [ntmps213,List.size_toArray,List.length_cons,List.length_nil,Nat.reduceAdd,Nat.reduceSub,Array.replicate_succ,Array.replicate_zero,List.push_toArray,List.append_toArray,List.nil_append,List.cons_append]
 gi_wp2
 have F:=Boxed.new w 27 (.slice none 0 0);have r:Below w w (w.alloc (.cells #[.slice none 0 0] 27)):=(qB _ w).alloc (lR _) _;refine wpIn_rangeFunc_ownG rfl H (gf:=gf) (lb:=lb) rfl trivial G
  f belowK_t (belowK_b sM) r (fun _=>rfl)
  (fun pre W=>(∃ v,Boxed W w.heap.size 27 v∧W.ownsRow w.heap.size 80 1 v pre.length (pre.map fun x=>Value.int .i8 x.1)∧True)∧Below w w W)
  (fun _ _ _=>False)
  (OwnFrom.and (Own.from (holdsRow_own w.heap.size w.heap.size 27 80 1 (fun pre:List I8=>pre.length) (fun pre=>pre.map fun x=>Value.int .i8 x.1) (fun pre v=>True)) _) (ownFrom_below (lR _) sM))
  (fun _ _ _ _ _ P _ _=>P)
  ⟨⟨_,F,World.ownsRow_nil _ _ _ _,trivial⟩,r⟩
  (fun x=>{ tmps:=#[.slice none 0 0,.func (.func gf) #[] lb,.pointer (some ⟨w.heap.size,0,none⟩),undef,.slice none 0 0,.int .i8 x.1,.func (.func gf) #[] lb,.int .i8 x.1,undef,undef,undef,undef,undef],defers:=[] }) ?assign ?body ?done ?stop
 case assign =>
  intro l x W K d;simp only [e8]
  gi_wp2
  exact d
 case body =>
  rintro l pre x W ⟨⟨v,p,t,-⟩,s⟩ O;have J:=p.cell
  gi_wp2_with (gi_at_builtin;refine wpListIn_append_own _ rfl _ _ 27 rfl w.heap.size 80 Q (.int .i8 0) 1 1 underlying27 hi j q z rfl dM _ _ _ rfl (t.alloc _) ⟨W.heap.size,0,none⟩ 1 1 [.int .i8 x.1] rfl rfl (cell_one_new _ _ _) (by simp [Value.oneCell']) mL oM (by have:=s.size;simp;omega) ?_;intro U V a i _;obtain ⟨R,B,rfl⟩:=ownsRow_succ a;obtain ⟨y,k,g,b,m⟩:=p.appended dM t s.size (lR _) a i;have L:=y.cell;have M:=y.frozen)
  exact ⟨b.from _,m,⟨_,k,by simpa using g,trivial⟩,s.trans m⟩
 case done =>
  rintro D C W I rfl ⟨⟨v,p,t,-⟩,s⟩ d;have J:=p.cell
  gi_wp2
  refine ⟨by simp,.inl ⟨_,_,rfl,run_takeDeferred d,?_⟩⟩;exact ⟨_,results_tmp rfl _ _ _,v,rfl,ownsRow_putObj t _ d rfl,s.trans (belowK_b (w:=w) (lR _) W D _ _ (by simp at I;omega) d rfl rfl)⟩
 case stop =>
  rintro D c pre W _ _ h _;exact h.elim
end
theorem tc (gf:Nat) (lb:Array Value) (xs:List I8) (N:Nat) (i:List I8 → Prop) (w:World) (r:N≤1000)
  (s:∀ t w,(callFunc gf t).run prog w=.ok (.enter gf t) w)
  (o:SeqStopsK Fence.wide 5 prog gf lb e8 (Below w.heap.size) (fun m=>m=xs) i N w) :
  Calls prog 181 #[.func (.func gf) #[] lb] w (RetSl (ab .i8) w (xs.map fun x=>x.1)):=by
 go_in
 go_wp2_with (go_at_call 213;refine ((callsIn_wide (n:=6)).1 (wh 6 gf dM lb xs N i w r s o)).mono ?_;rintro e c ⟨v,rfl,a,d⟩)
 go_ret;have l:Own (ab .i8) c (fun _=>False) w.heap.size 80 v xs.length (xs.map fun x=>x.1):=⟨_,a,vV _ _ _⟩;exact l.ret dM d (fun _ h=>h.elim)
theorem xY (H V C:Nat) (A:QA) (n t:Nat) (l:List Int) (d:af) (W:QA) (nw r:Nat) (B:QA) (nb cb:Nat) (K S P y x c:Nat) (w:World)
  (g:xA w A n t l) (j:n=H*V*C) (m:n≤1024) (U:1≤H∧H≤16) (v1:1≤V∧V≤16) (T:1≤C∧C≤1024) (v:decide (0 < ag H V C)=true)
  (b:d.k=K) (z:d.s=S) (q:d.p=P) (k1:1≤K∧K≤5) (s1:1≤S∧S≤4) (p1:P≤4) (hy:y≤1000) (Z:x≤1000) (X:c < C) :
  Calls prog 182 #[.agg (tN H V C A n t),.agg (nD d W nw r B nb cb),.int .i64 y,.int .i64 x,.int .i64 c] w fun e w' =>
   ∃ F,e=.returned F∧Below w w w'∧Calls prog 181 #[F] w' (RetSl (ab .i8) w' (lF H V C l K S P c y x (K*K))):=by
 have Q:=zH g;have Y:K*K≤5*5:=Nat.mul_le_mul k1.2 k1.2;have i:=zW w;obtain ⟨E,G,I,w4,f,an,ah,ad,al,ac,q1,q2,q3,q4,q5,N,M,L,O,J,a⟩:=bk5 w (tN H V C A n t) 29 (nD d W nw r B nb cb) 84 #[.int .i64 y] 3 #[.int .i64 x] 3 #[.int .i64 c] 3;replace i:=zF a i;clear a;have D:=zH (zO Q i);have R:=zH (xX H V C A n t l d W nw r B nb cb K S P y x c E.heap.size w.heap.size G.heap.size I.heap.size w4.heap.size f.heap.size 5 f D.out j m U v1 T v b z q k1 s1 p1 hy Z X M.o N.o L.o O.o J.o ⟨by omega,by omega,by omega,by omega,by omega⟩ (lR _) dM);clear j b z q v g;go_in;go_wp2;go_ret;refine ⟨_,rfl,i.u,?_⟩;refine (tc 214 #[.pointer (some ⟨E.heap.size,0,none⟩),.pointer (some ⟨w.heap.size,0,none⟩),.pointer (some ⟨G.heap.size,0,none⟩),.pointer (some ⟨I.heap.size,0,none⟩),.pointer (some ⟨w4.heap.size,0,none⟩)] (mu H V C l D.out.allK K S P c y x (K*K)) (K*K) (fun _=>True) f oM (enters_of func214 kM rfl) R.o).mono ?_;intro e w6 h;rw [oF] at h;exact h
end Go.Proofs.YtbecbfpoahhpnaaGreat
namespace Go.Proofs.YtbecbfpoahhpnaaGreat
open Go.RowKit Go.ChangeShapes Go.WideShapes Fx Tryz
theorem C3 (l:List Int):hiN l 1=l.getD 0 0:=by
 show (if hiN l 0 < l.getD 0 0 then l.getD 0 0 else hiN l 0)=_;split
 ·rfl
 ·rfl
theorem Bm (A:QA) (n t:Nat) (l:List Int) (w:World) (m:xA w A n t l) (C:n≤1024) (p:1≤n) :
  Calls prog 183 #[.slice A n t] w fun e w'=>e=.returned (.int .i8 (hiN l n))∧w=w':=by
 have H:=zH m;clear m;obtain ⟨b,o,rfl,-,-,s,j⟩:=H.o.int_at 0 oM;rw [Nat.add_zero] at s;have F:¬ (n:Int) < 1:=oM;have d:=zH (C3 l);obtain ⟨G,a⟩:∃ x,l.getD 0 0=x:=⟨_,rfl⟩;rw [a] at s j d;clear a;go_in;go_wp2_with fail;clear s;go_loopw [3,4] (fun v r wr=>∃ k:Nat,k≤n∧1≤k∧r=.int .i64 k∧v=.int .i8 (hiN l k)∧w=wr) (fun _ r _=>n - (intOf r).toNat)
 case atStart=>exact ⟨1,p,lR _,rfl,by rw [d.o],rfl⟩
 case round =>
  obtain ⟨k,B,g,rfl,rfl,rfl⟩:=hrel;by_cases h:k < n
  ·have E:(k:Int) < (n:Int):=oM;obtain ⟨z,D,c,-,-,y,q⟩:=H.o.int_at k h;simp only [Option.some.injEq,Addr.mk.injEq,and_true] at c;obtain ⟨rfl,rfl⟩:=c;have i:=zH (show hiN l (k+1)=if hiN l k < l.getD k 0 then l.getD k 0 else hiN l k from rfl);obtain ⟨x,f⟩:∃ x,l.getD k 0=x:=⟨_,rfl⟩;rw [f] at y q i;clear f;go_wp2;exact ⟨⟨k+1,by omega,by omega,by go_num,by first|(rw [i.o];done)|(rw [i.o];congr 1;split <;> omega),by trivial⟩,by simp [intOf];omega⟩
  ·obtain rfl:k=n:=oM;go_wp2;go_ret;exact ⟨rfl,by trivial⟩
theorem tG (A:QA) (n t:Nat) (l:List Int) (w:World) (o:xA w A n t l) (i:n≤1024) (a:1≤n) :
  Calls prog 150 #[.slice A n t] w fun e w'=>e=.returned (.int .i8 (hiN l n))∧w=w':=by
 go_in
 go_wp2_with (go_at_call 183;refine (Bm A n t l _ o i a).mono ?_;rintro e s ⟨rfl,rfl⟩)
 go_ret;exact ⟨rfl,rfl⟩
open Go
section
variable {P:Program} {ops:Array Oper} {Q:Exit → Act → World → Prop} {o:Oper} {a:Act} {k:IntKind} {w:World} {base q N:Nat} {E:TypeId} {L:List Int}
theorem xl (s:Own (ab k) w (fun _=>False) base E (.slice (some ⟨q,0,none⟩) N N) N L) (off:Nat) (xs:List Int) (C:∀ x ∈ xs,InK k x) (c:off+xs.length≤N) :
  ∃ t:Array Value,w.heap[q]?=some (.cells t E (0,0))∧t.size=N∧∀ w',w'=w.setRow q (t.toList.take off ++ (xs.map (Value.int k) ++ t.toList.drop (off+xs.length))).toArray →
   Own (ab k) w' (fun _=>False) base E (.slice (some ⟨q,0,none⟩) N N) N (splice L off xs)∧w.grownBy w' (some q):=by
 obtain ⟨vs,⟨l,v⟩,b⟩:=s.out;obtain ⟨r,d⟩:=b.ints_iff;rcases v with ⟨e,-⟩|⟨g,p,t,e,z,m,D,B,f,y⟩
 ·cases e
 ·injection e with e e' e''
  injection e with e
  injection e with e
  subst e e'';have sz:(ab k).size=1:=rfl;rw [sz,Nat.mul_one] at f y l;have i:t.toList=L.map (Value.int k):=by
   rw [← r,← y,List.take_of_length_le (by rw [Array.length_toList];omega)]
  refine ⟨t,m,f,?_⟩;rintro w' rfl;have n:(splice L off xs).length=N:=by
   have:L.length=N:=by rw [← l,r,List.length_map]
   rw [length_splice _ _ _ oM,this]
  have a:(t.toList.take off ++ (xs.map (Value.int k) ++ t.toList.drop (off+xs.length)))=(splice L off xs).map (Value.int k):=by
   rw [i];simp [splice]
  rw [a];refine ⟨⟨(splice L off xs).map (Value.int k),⟨by rw [List.length_map,n,sz,Nat.mul_one],.inr ⟨q,N,((splice L off xs).map (Value.int k)).toArray,rfl,z,setRow_heap w q _ _ E _ m,lR _,B,by simp [n,sz],by rw [sz,Nat.mul_one,List.take_of_length_le (by simp [n])]⟩⟩,RowsOf.ints ?_⟩,⟨rfl,rfl,rfl,by simp [World.setRow],fun j _ A=>setRow_other w q j _ (fun e=>A (by rw [e]))⟩⟩;intro x o;unfold splice at o;rcases List.mem_append.1 o with h|h
  ·exact d x (List.mem_of_mem_take h)
  ·rcases List.mem_append.1 h with h|h
   ·exact C x h
   ·exact d x (List.mem_of_mem_drop h)
theorem lf {K:Act → World → Prop} (d s:Operand) (z D:TypeId) (O:o.op=.call { callee:=.builtin .copy,args:=#[d,s],argTypes:=#[z,D] }) (i:TypeId) (S:P.underlying z=some (.slice i)) (A:(P.info? i).map (·.size)=some 1)
  (B:Own (ab k) w (fun _=>False) base E (.slice (some ⟨q,0,none⟩) N N) N L) (off t r:Nat) (I:a.eval d=.slice (some ⟨q,off,none⟩) t r) (b:Addr) (n m:Nat) (R:a.eval s=.slice (some b) n m)
  (xs:List Int) (U:∀ x ∈ xs,InK k x) (M:xs.length=Nat.min n t) (p:∀ j,j < xs.length → w.cell? (b.add j)=some (.int k (xs.getD j 0))) (l:off+xs.length≤N)
  (h:∀ w',Own (ab k) w' (fun _=>False) base E (.slice (some ⟨q,0,none⟩) N N) N (splice L off xs) → w.grownBy w' (some q) → K (a.put o.dst (goInt xs.length)) w'):Oper.wp P o a w K Q:=by
 obtain ⟨g,J,H,T⟩:=xl B off xs U l;have c:=run_copy_row (P:=P) w z D o.type i q off t r b n m g E (xs.map (Value.int k)) S A J (by simpa using M) (fun j v f=>by
  rw [List.getElem?_map] at f;have C:j < xs.length:=by
   cases e:xs[j]? with
   | none=>rw [e] at f;cases f
   | some y=>exact (List.getElem?_eq_some_iff.1 e).1
  rw [p j C,← f,gD,List.getElem?_eq_getElem C];rfl) (by simpa [H] using l) (by intro v f;obtain ⟨y,-,rfl⟩:=List.mem_map.1 f;rfl)
 obtain ⟨F,G⟩:=T _ rfl;have:=h _ F G;unfold Oper.wp;simp only [List.length_map] at c;simp [execOp,O,resolve,invoke,builtin,I,R,c,Result.andThen];exact this
theorem jO {r:List Oper} (p:o.guard=none) (d s:Operand) (y g:TypeId) (F:o.op=.call { callee:=.builtin .copy,args:=#[d,s],argTypes:=#[y,g] }) (t:TypeId) (H:P.underlying y=some (.slice t)) (v:(P.info? t).map (·.size)=some 1)
  (b:Own (ab k) w (fun _=>False) base E (.slice (some ⟨q,0,none⟩) N N) N L) (off e n:Nat) (C:a.eval d=.slice (some ⟨q,off,none⟩) e n) (f:Addr) (i l:Nat) (G:a.eval s=.slice (some f) i l)
  (xs:List Int) (I:∀ x ∈ xs,InK k x) (D:xs.length=Nat.min i e) (m:∀ j,j < xs.length → w.cell? (f.add j)=some (.int k (xs.getD j 0))) (c:off+xs.length≤N)
  (h:∀ w',Own (ab k) w' (fun _=>False) base E (.slice (some ⟨q,0,none⟩) N N) N (splice L off xs) → w.grownBy w' (some q) → wpList P ops Q r (a.put o.dst (goInt xs.length)) w'):wpList P ops Q (o :: r) a w :=
 wpList_plain p fun K B=>lf d s y g F t H v b off e n C f i l G xs I D m c fun w' z A=>B _ _ (h w' z A)
end
theorem ue (h v c:Int) (W:QA) (nw D:Nat) (B:QA) (nb cb:Nat) (need cl:Int) (w:World) (S:InK .i64 h) (T:InK .i64 v) (U:InK .i64 c) (N:nw≤maxLen) (M:nb≤maxLen) (L:InK .i64 cl) :
  Calls prog 71 #[.agg (sN h v c),.agg #[.slice W nw D,.slice B nb cb,.int .i32 need],.int .i64 cl] w fun e w' =>
   e=.returned (.int .i64 (aU (ag h v c) nw nb need cl))∧Below w w w':=by
 have H:=zH (And.intro S (And.intro T U));unfold maxLen at N M;rw [ai] at L;clear S T U;obtain ⟨an,ah⟩:=jS h v c;have f:=zH (fun w=>bX h c v w H.o.1 H.o.2.1 H.o.2.2);generalize ag h v c=m at *;have a:=zW w;obtain ⟨w1,w2,n,s,_,_,g,l,b⟩:=bk2 w (sN h v c) 23 #[.slice W nw D,.slice B nb cb,.int .i32 need] 49;replace a:=zF b a;clear b;have A:=fun i=>g.o.cell i;have j:=fun i=>l.o.cell i;by_cases z:m=0
 ·subst z;have C:=zH (show (5:Int)=aU 0 nw nb need cl by unfold aU;rw [if_pos rfl]);go_in;go_wp2_with fail;clear n s;refine qM (f.o _) fun d t=>?_;replace a:=zF t a;clear t;go_wp2;go_ret;exact ⟨bK C.o,a.u⟩
 have t0:(m == 0)=false:=by simp;exact z
 by_cases y:cl < 2
 ·have t1:decide (cl < 2)=true:=by simp;exact y
  have C:=zH (show (2:Int)=aU m nw nb need cl by unfold aU;rw [if_neg z,if_pos (.inl y)]);clear z y;go_in;go_wp2_with fail;clear n s;refine qM (f.o _) fun d t=>?_;replace a:=zF t a;clear t;go_wp2;go_ret;exact ⟨bK C.o,a.u⟩
 have t1:decide (cl < 2)=false:=sO;by_cases k:16 < cl
 ·have t2:decide (16 < cl)=true:=by simp;exact k
  have C:=zH (show (2:Int)=aU m nw nb need cl by unfold aU;rw [if_neg z,if_pos (.inr k)]);clear z y k;go_in;go_wp2_with fail;clear n s;refine qM (f.o _) fun d t=>?_;replace a:=zF t a;clear t;go_wp2;go_ret;exact ⟨bK C.o,a.u⟩
 have t2:decide (16 < cl)=false:=sO;have pb:0≤cl*m∧cl*m≤16*1024:=⟨Int.mul_nonneg oM oM,Int.mul_le_mul oM oM oM oM⟩;have Q:aU m nw nb need cl=if (nw:Int) ≠ cl*m ∨ 16384 < nw ∨ (nb:Int) ≠ cl then 9 else if need < 0 then 11 else 0:=by unfold aU;rw [if_neg z,if_neg oM]
 have R:=zH Q;have J:IntKind.i64.wrap (cl*m)=cl*m:=wJ;clear Q;obtain ⟨p,O⟩:∃ p,cl*m=p:=⟨_,rfl⟩;rw [O] at J R pb;have K:IntKind.i64.wrap (cl*m)=p:=by rw [O];exact J
 have X:=zH K;clear O J y k z K;obtain ⟨r,P⟩:∃ r,aU m nw nb need cl=r:=⟨_,rfl⟩;rw [P];have Y:=zH P;clear P;go_in;go_wp2_with fail;clear n s A j;refine qM (f.o _) fun d t=>?_;obtain ⟨a,l,g⟩:=uz3 t a l g;clear t;go_wp2_with fail;have j:∀ (x:Ext d) (i:Nat),x.1.cell? ⟨w1.heap.size,i,none⟩=(#[.slice W nw D,.slice B nb cb,.int .i32 need]:Array Value)[i]?:=fun x i=>(l.o.ext x).cell i;have A:∀ (x:Ext d) (i:Nat),x.1.cell? ⟨w.heap.size,i,none⟩=((sN h v c):Array Value)[i]?:=fun x i=>(g.o.ext x).cell i;have V:=zH (fun x:Ext d=>aB x (f.o x.1));have K:=X.o;have t3:(((nw:Int) != p)=true∧(if (nw:Int) ≠ p ∨ 16384 < nw ∨ (nb:Int) ≠ cl then (9:Int) else if need < 0 then 11 else 0)=9) ∨
   (((nw:Int) != p)=false∧((decide ((16384:Int) < (nw:Int))=true∧(if (nw:Int) ≠ p ∨ 16384 < nw ∨ (nb:Int) ≠ cl then (9:Int) else if need < 0 then 11 else 0)=9) ∨
    (decide ((16384:Int) < (nw:Int))=false∧((((nb:Int) != cl)=true∧(if (nw:Int) ≠ p ∨ 16384 < nw ∨ (nb:Int) ≠ cl then (9:Int) else if need < 0 then 11 else 0)=9) ∨
     (((nb:Int) != cl)=false∧((decide (need < 0)=true∧(if (nw:Int) ≠ p ∨ 16384 < nw ∨ (nb:Int) ≠ cl then (9:Int) else if need < 0 then 11 else 0)=11) ∨
      (decide (need < 0)=false∧(if (nw:Int) ≠ p ∨ 16384 < nw ∨ (nb:Int) ≠ cl then (9:Int) else if need < 0 then 11 else 0)=0))))))):=by
  by_cases F:(nw:Int)=p
  ·right;refine ⟨by simp;exact F,?_⟩;by_cases Z:16384 < nw
   ·left;exact ⟨by simp;omega,by rw [if_pos (.inr (.inl Z))]⟩
   ·right;refine ⟨by simp;omega,?_⟩;by_cases G:(nb:Int)=cl
    ·right;refine ⟨by simp;exact G,?_⟩;rw [if_neg oM];by_cases I:need < 0
     ·left;exact ⟨by simp;exact I,by rw [if_pos I]⟩
     ·right;exact ⟨by simp;omega,by rw [if_neg I]⟩
    ·left;exact ⟨by simp;exact G,by rw [if_pos (.inr (.inr G))]⟩
  ·left;exact ⟨by simp;exact F,by rw [if_pos (.inl F)]⟩
 rcases t3 with ⟨t3,e⟩|⟨t3,⟨t4,e⟩|⟨t4,⟨t5,e⟩|⟨t5,⟨t6,e⟩|⟨t6,e⟩⟩⟩⟩;all_goals
  have E:=zH e;clear e;refine am d kM kM (qB _ _) ?_;repeat (go_big_quiet_step ((exact V.o _)))
  refine wpQuiet_nil ?_;rintro _ ⟨⟨w4,t⟩,rfl⟩;clear j A;have j:=fun i=>(l.o.fut t).cell i;have q:=zH (a.o.fut t);clear t;go_wp2;go_ret;exact ⟨bK (by rw [← Y.o,R.o,E.o]),q.o.out⟩
end Go.Proofs.YtbecbfpoahhpnaaGreat
