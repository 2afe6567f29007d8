/-
  tensor (layer 5): what a right tensor is.
  The shape that a node makes (layers 10, 17): conv.Shape, depth.Shape, the document's.
  The shape that a node makes (layers 18, 25): what they are, in numbers.
  The sums of convolutions (layers 10, 14, 16, 17): what the shapes say, in whole numbers; the values.
  An empty row of a call's own.
  slices.Clone of []int32.
-/
import Derived.Test.YtlbkekabmpienaaGreatJ05
import Derived.Test.YtlbkekabmpienaaGreatJ00
import Derived.Test.YtlbkekabmpienaaGreatChecked
import Derived.Test.YtlbkekabmpienaaGreatJ06
import Derived.Test.YtlbkekabmpienaaGreatJ03
import Derived.Test.YtlbkekabmpienaaGreatJ01
import Derived.Test.YtlbkekabmpienaaGreatJ07
import Derived.WalkSpells
import Derived.Lib.SliceRun
set_option linter.unusedVariables false
set_option linter.unusedSimpArgs false
namespace Go.Proofs.YtlbkekabmpienaaGreat
open Go.RowKit Go.ChangeShapes Go.WideShapes
set_option maxRecDepth 100000
/-- Is a tensor right? -/
def Tensor.ok (t:Tensor):Bool:=decide (0 < elems t.h t.v t.c∧elems t.h t.v t.c=t.data.length)
theorem Sl.far {α:Type} {t:Ty α} {w:World} {S:Nat → Prop} {A:Option Addr} {n cap:Nat} {l:List α} (h:Sl t w S A n cap l) (p:Addr) (u:Value) (hp:∀ b,S b → b ≠ p.block):Sl t (w.setCell p u) S A n cap l :=
 h.keep fun b hb=>Below.heap_setCell w p u b (hp b hb)
end Go.Proofs.YtlbkekabmpienaaGreat
namespace Go.Proofs.YtlbkekabmpienaaGreat
set_option linter.unusedVariables false
set_option linter.unusedSimpArgs false
open Go.RowKit Go.ChangeShapes Go.WideShapes
set_option maxRecDepth 100000
theorem slideV_ok {h v c k s p o:Int} (e:(slideV h v c k s p o).2=0):1≤k∧k≤5∧1≤o∧o≤1024∧1≤c∧c≤1024:=by
 unfold slideV at e
 by_cases c1:elems h v c=0
 ·rw [if_pos c1] at e;cases e
 rw [if_neg c1] at e
 by_cases c2:(stepsV h k s p).2 ≠ 0
 ·rw [if_pos c2] at e;exact absurd e c2
 rw [if_neg c2] at e
 by_cases c3:(stepsV v k s p).2 ≠ 0
 ·rw [if_pos c3] at e;exact absurd e c3
 rw [if_neg c3] at e
 by_cases c4:elems (stepsV h k s p).1 (stepsV v k s p).1 o=0
 ·rw [if_pos c4] at e;cases e
 rw [elems_iff] at c1 c4
 have g1:1≤c∧c≤1024:=by
  split at c1
  ·omega
  ·exact absurd rfl c1
 have g2:1≤o∧o≤1024:=by
  split at c4
  ·omega
  ·exact absurd rfl c4
 have g3:1≤k∧k≤5:=by
  unfold stepsV at c2
  split at c2
  ·rename_i q;unfold stepOk at q;omega
  ·exact absurd (by decide) c2
 omega
/-- The weights fit, or they do not. -/
def fitV (x:ShE) (want out:Int) (d:Node):ShE:=if x.2 ≠ 0 then noS x.2 else if ¬ (d.w.length:Int)=want ∨ 16384 < d.w.length ∨ ¬ (d.bias.length:Int)=out then noS 9 else x
def convV (h v c:Int) (d:Node):ShE:=fitV (slideV h v c d.k d.s d.p d.out) (d.out*d.k*d.k*c) d.out d
def depthV (h v c:Int) (d:Node):ShE:=fitV (slideV h v c d.k d.s d.p c) (c*d.k*d.k) c d
theorem prod_bd {a b:Int} {m n:Int} (h1:0≤a) (h2:a≤m) (h3:0≤b) (h4:b≤n) (hm:0≤m):0≤a*b∧a*b≤m*n :=
 ⟨Int.mul_nonneg h1 h3,Int.mul_le_mul h2 h4 h3 hm⟩
end Go.Proofs.YtlbkekabmpienaaGreat
namespace Go.Proofs.YtlbkekabmpienaaGreat
set_option linter.unusedVariables false
set_option linter.unusedSimpArgs false
open Go.RowKit Go.ChangeShapes Go.WideShapes
set_option maxRecDepth 100000
/-- '!=' of two aggregates, out of a run of the comparison. -/
theorem wpList_neq_agg {P:Program} {ops:Array Oper} {rest:List Oper} {o:Oper} {a:Act} {w:World} {Q:Exit → Act → World → Prop} (t u:TypeId) (x y:Operand) (ho:o.op=.binOp .neq t x y u) (xs ys:Array Value) (hx:a.eval x=.agg xs) (hy:a.eval y=.agg ys)
  (hw:Region.wanted o (yielded ops a.tmps)=true) (hm:P.eqGuardType P.depth t=false) (b:Bool) (hrun:(Op.equalIn 10000 t (.agg xs) (.agg ys)).run P w=.ok b w) (h:wpList P ops Q rest (a.put o.dst (.bool (!b))) w):wpList P ops Q (o :: rest) a w:=by
 refine BigFrame.wpList_want hw fun K hK=>?_
 unfold Oper.wp execOp
 simp only [ho,hx,hy,Sem.run_bind,fun w=>run_eqGuard_agg (P:=P) w .neq t x y xs ys hm,run_neq_struct,hrun,Result.andThen_ok,Sem.run_pure]
 exact hK _ _ (by simpa using h)
theorem eq_shape (w:World) (h v c h2 v2 c2:Int):(Op.equalIn 10000 30 (.agg #[.int .i64 h,.int .i64 v,.int .i64 c]) (.agg #[.int .i64 h2,.int .i64 v2,.int .i64 c2])).run Tryz.prog w=.ok ([h,v,c] == [h2,v2,c2]) w :=
 run_eql_st3 (P:=Tryz.prog) (t:=30) (k0:=.i64) (k1:=.i64) (k2:=.i64) w Tryz.underlying30 (by kernel_rfl) (by decide) ⟨rfl,rfl,rfl⟩ Tryz.underlying3 Tryz.underlying3 Tryz.underlying3 (by kernel_rfl) (by kernel_rfl) (by kernel_rfl) h v c h2 v2 c2
end Go.Proofs.YtlbkekabmpienaaGreat
namespace Go.Proofs.YtlbkekabmpienaaGreat
open Go.RowKit
set_option linter.unusedVariables false
set_option linter.unusedSimpArgs false
/-- A tensor that is right, in whole numbers. -/
structure TOk (t:Tensor) (n H V C:Nat):Prop where
 h:t.h=H
 v:t.v=V
 c:t.c=C
 h1:1≤H∧H≤16
 v1:1≤V∧V≤16
 c1:1≤C∧C≤1024
 n_eq:n=H*V*C
 n_le:n≤1024
theorem elems_nat {h v c:Int} (e:¬ elems h v c=0):∃ H V C:Nat,h=H∧v=V∧c=C∧(1≤H∧H≤16)∧(1≤V∧V≤16)∧(1≤C∧C≤1024)∧elems h v c=(H*V*C:Nat)∧H*V*C≤1024:=by
 rw [elems_iff] at e ⊢
 split at e
 ·rename_i q
  obtain ⟨a1,a2,a3,a4,a5,a6,a7⟩:=q
  have e1:h=(h.toNat:Int):=by omega
  have e2:v=(v.toNat:Int):=by omega
  have e3:c=(c.toNat:Int):=by omega
  have e4:h*v*c=((h.toNat*v.toNat*c.toNat:Nat):Int):=by rw [Int.natCast_mul,Int.natCast_mul,← e1,← e2,← e3]
  refine ⟨h.toNat,v.toNat,c.toNat,e1,e2,e3,by omega,by omega,by omega,?_,?_⟩
  ·rw [if_pos ⟨a1,a2,a3,a4,a5,a6,a7⟩];exact e4
  ·have:=a7;rw [e4] at this;omega
 ·exact absurd rfl e
theorem tok_of {t:Tensor} (h:t.ok=true):∃ H V C,TOk t t.data.length H V C:=by
 simp only [Tensor.ok,decide_eq_true_eq] at h
 obtain ⟨H,V,C,e1,e2,e3,b1,b2,b3,e4,e5⟩:=elems_nat (h:=t.h) (v:=t.v) (c:=t.c) (by omega)
 exact ⟨H,V,C,e1,e2,e3,b1,b2,b3,by omega,by omega⟩
/-- What a window's places say. -/
structure WOk (d:Node) (H V C K S P Ho Wo Co:Nat):Prop where
 k:d.k=K
 s:d.s=S
 p:d.p=P
 k1:1≤K∧K≤5
 s1:1≤S∧S≤4
 p1:P≤4∧P < K
 ho:Ho=(H+2*P - K) / S+1
 wo:Wo=(V+2*P - K) / S+1
 hk:K≤H+2*P
 vk:K≤V+2*P
 ho1:1≤Ho∧Ho≤16
 wo1:1≤Wo∧Wo≤16
 co1:1≤Co∧Co≤1024
 no:Ho*Wo*Co≤1024
theorem stepsV_nat {n:Nat} {k s p:Int} {x:Int} (h:stepsV n k s p=(x,0)):∃ K S P:Nat,k=K∧s=S∧p=P∧(1≤K∧K≤5)∧(1≤S∧S≤4)∧(P≤4∧P < K)∧K≤n+2*P∧x=((n+2*P - K) / S+1:Nat):=by
 unfold stepsV at h
 split at h
 ·rename_i q
  unfold stepOk at q
  split at h
  ·cases (Prod.mk.inj h).2
  ·have e:=(Prod.mk.inj h).1
   obtain ⟨q1,q2,q3,q4,q5,q6,q7,q8,q9⟩:=q
   refine ⟨k.toNat,s.toNat,p.toNat,by omega,by omega,by omega,by omega,by omega,by omega,by omega,?_⟩
   rw [← e]
   have a:(n:Int)+2*p - k=((n+2*p.toNat - k.toNat:Nat):Int):=by omega
   have b:s=(s.toNat:Int):=by omega
   rw [a,b,Int.tdiv_eq_ediv_of_nonneg (by omega)]
   simp
 ·cases (Prod.mk.inj h).2
theorem slide_nat {H V C:Nat} {d:Node} {o x1 x2 x3:Int} (h:slideV H V C d.k d.s d.p o=((x1,x2,x3),0)):∃ K S P Ho Wo Co:Nat,WOk d H V C K S P Ho Wo Co∧x1=Ho∧x2=Wo∧x3=Co∧o=Co∧elems x1 x2 x3=(Ho*Wo*Co:Nat):=by
 unfold slideV at h
 by_cases c1:elems H V C=0
 ·rw [if_pos c1] at h;cases (Prod.mk.inj h).2
 rw [if_neg c1] at h
 by_cases c2:(stepsV H d.k d.s d.p).2 ≠ 0
 ·rw [if_pos c2] at h;exact absurd (Prod.mk.inj h).2 c2
 rw [if_neg c2] at h
 by_cases c3:(stepsV V d.k d.s d.p).2 ≠ 0
 ·rw [if_pos c3] at h;exact absurd (Prod.mk.inj h).2 c3
 rw [if_neg c3] at h
 by_cases c4:elems (stepsV H d.k d.s d.p).1 (stepsV V d.k d.s d.p).1 o=0
 ·rw [if_pos c4] at h;cases (Prod.mk.inj h).2
 rw [if_neg c4] at h
 obtain ⟨y1,e1⟩:∃ y,stepsV H d.k d.s d.p=(y,0):=⟨(stepsV H d.k d.s d.p).1,by rw [← Decidable.not_not.1 c2]⟩
 obtain ⟨y2,e2⟩:∃ y,stepsV V d.k d.s d.p=(y,0):=⟨(stepsV V d.k d.s d.p).1,by rw [← Decidable.not_not.1 c3]⟩
 rw [e1,e2] at h c4
 obtain ⟨K,S,P,hk,hs,hp,k1,s1,p1,hk2,f1⟩:=stepsV_nat e1
 obtain ⟨K',S',P',hk',hs',hp',-,-,-,vk2,f2⟩:=stepsV_nat e2
 obtain rfl:K=K':=by omega
 obtain rfl:S=S':=by omega
 obtain rfl:P=P':=by omega
 obtain ⟨Ho,Wo,Co,g1,g2,g3,b1,b2,b3,g4,g5⟩:=elems_nat c4
 simp only at h g1 g2 g3 g4
 obtain ⟨h',-⟩:=Prod.mk.inj h
 obtain ⟨h1,h'⟩:=Prod.mk.inj h'
 obtain ⟨h2,h3⟩:=Prod.mk.inj h'
 subst h1 h2 h3
 exact ⟨K,S,P,Ho,Wo,Co,⟨hk,hs,hp,k1,s1,p1,by omega,by omega,hk2,vk2,b1,b2,b3,g5⟩,g1,g2,g3,g3,g4⟩
theorem fit_nat {x y:ShE} {want out:Int} {d:Node} (h:fitV x want out d=y) (h2:y.2=0):x=y∧(d.w.length:Int)=want∧d.w.length≤16384∧(d.bias.length:Int)=out:=by
 unfold fitV at h
 split at h
 ·rename_i q;subst h;exact absurd h2 q
 ·split at h
  ·subst h;cases h2
  ·rename_i q
   refine ⟨h,?_,?_,?_⟩
   ·exact Decidable.byContradiction fun e=>q (.inl e)
   ·exact Nat.not_lt.1 fun e=>q (.inr (.inl e))
   ·exact Decidable.byContradiction fun e=>q (.inr (.inr e))
/-- The sums of a convolution. -/
def convF (t:Tensor) (d:Node) (Wo Co:Nat) (i:Nat):Int:=wrap32 (d.bias.getD (i % Co) 0+convN t.h.toNat t.v.toNat t.c.toNat t.data d.za d.w d.k.toNat d.s.toNat d.p.toNat (i % Co) (i / Co / Wo) (i / Co % Wo))
def convOf (t:Tensor) (d:Node):Tensor × Int :=
 if t.ok=true then (if (convV t.h t.v t.c d).2=0 then (⟨(convV t.h t.v t.c d).1.1,(convV t.h t.v t.c d).1.2.1,(convV t.h t.v t.c d).1.2.2,
  (List.range (elems (convV t.h t.v t.c d).1.1 (convV t.h t.v t.c d).1.2.1 (convV t.h t.v t.c d).1.2.2).toNat).map (convF t d (convV t.h t.v t.c d).1.2.1.toNat (convV t.h t.v t.c d).1.2.2.toNat)⟩,0) else (noTensor,(convV t.h t.v t.c d).2)) else (noTensor,5)
theorem conv_nat {t:Tensor} {d:Node} (h1:t.ok=true) (h2:(convV t.h t.v t.c d).2=0):∃ H V C K S P Ho Wo Co:Nat,TOk t t.data.length H V C∧WOk d H V C K S P Ho Wo Co∧convV t.h t.v t.c d=(((Ho:Int),(Wo:Int),(Co:Int)),0)∧d.w.length=Co*K*K*C∧d.bias.length=Co∧d.out=Co∧elems Ho Wo Co=(Ho*Wo*Co:Nat) ∧
  convOf t d=(⟨Ho,Wo,Co,(List.range (Ho*Wo*Co)).map (convF t d Wo Co)⟩,0):=by
 obtain ⟨H,V,C,T⟩:=tok_of h1
 obtain ⟨⟨⟨x1,x2,x3⟩,e⟩,hx⟩:∃ x,convV t.h t.v t.c d=x:=⟨_,rfl⟩
 have hx':=hx
 rw [hx] at h2
 obtain rfl:e=0:=h2
 unfold convV at hx'
 obtain ⟨a,b,-,c⟩:=fit_nat hx' rfl
 rw [T.h,T.v,T.c] at a
 obtain ⟨K,S,P,Ho,Wo,Co,hw,e1,e2,e3,e4,e5⟩:=slide_nat a
 subst e1 e2 e3
 refine ⟨H,V,C,K,S,P,Ho,Wo,Co,T,hw,hx,?_,by omega,e4,e5,?_⟩
 ·rw [e4,hw.k,T.c] at b
  exact_mod_cast b
 ·unfold convOf
  rw [if_pos h1,hx,if_pos rfl]
  simp only [e5,Int.toNat_natCast]
/-- The places that are filled, by rows, channels, columns. -/
def doneL (Wo Co h o w j:Nat):Bool:=decide (j / Co / Wo < h ∨ (j / Co / Wo=h∧(j % Co < o ∨ (j % Co=o∧j / Co % Wo < w))))
theorem place_iff (Wo Co h w o j:Nat) (hw:w < Wo) (ho:o < Co):j=(h*Wo+w)*Co+o ↔ j / Co / Wo=h∧j / Co % Wo=w∧j % Co=o:=by
 constructor
 ·rintro rfl
  obtain ⟨h1,h2,h3⟩:=nest_div h w Wo Co o hw ho
  exact ⟨h1,h2,h3⟩
 ·rintro ⟨e1,e2,e3⟩
  have h1:=Nat.div_add_mod j Co
  have h2:=Nat.div_add_mod (j / Co) Wo
  rw [e1,e2,Nat.mul_comm] at h2
  rw [← h2,e3,Nat.mul_comm] at h1
  omega
theorem doneL_step (Wo Co h o w j:Nat) (hw:w < Wo) (ho:o < Co):(doneL Wo Co h o w j || j == (h*Wo+w)*Co+o)=doneL Wo Co h o (w+1) j:=by
 rw [Bool.eq_iff_iff]
 simp only [doneL,Bool.or_eq_true,decide_eq_true_eq,beq_iff_eq,place_iff Wo Co h w o j hw ho]
 omega
theorem doneL_row (Wo Co h o j:Nat) (hw:0 < Wo):doneL Wo Co h o Wo j=doneL Wo Co h (o+1) 0 j:=by
 have:=Nat.mod_lt (j / Co) hw
 rw [Bool.eq_iff_iff]
 simp only [doneL,decide_eq_true_eq]
 omega
theorem doneL_col (Wo Co h j:Nat) (hc:0 < Co):doneL Wo Co h Co 0 j=doneL Wo Co (h+1) 0 0 j:=by
 have:=Nat.mod_lt j hc
 rw [Bool.eq_iff_iff]
 simp only [doneL,decide_eq_true_eq]
 omega
theorem doneL_none (Wo Co j:Nat):doneL Wo Co 0 0 0 j=false:=by
 simp only [doneL,decide_eq_false_iff_not]
 rintro (h|⟨-,h|⟨-,h⟩⟩) <;> exact Nat.not_lt_zero _ h
theorem doneL_all (Ho Wo Co j:Nat) (hj:j < Ho*Wo*Co):doneL Wo Co Ho 0 0 j=true:=by
 simp only [doneL,decide_eq_true_eq]
 left
 have:j / Co < Ho*Wo:=Nat.div_lt_of_lt_mul (by rw [Nat.mul_comm];exact hj)
 exact Nat.div_lt_of_lt_mul (by rw [Nat.mul_comm];exact this)
end Go.Proofs.YtlbkekabmpienaaGreat
namespace Go.Proofs.YtlbkekabmpienaaGreat
set_option linter.unusedVariables false
set_option linter.unusedSimpArgs false
open Go.RowKit Go.ChangeShapes Go.WideShapes
set_option maxRecDepth 100000
theorem Own.lit0 {W:World} {k:IntKind} {E:TypeId} {base:Nat} (hb:base≤W.heap.size):Own (tInt k) (W.alloc (.cells #[] E)) (fun _=>False) base E (.slice (some ⟨W.heap.size,0,none⟩) 0 0) 0 [] :=
 ⟨[],⟨rfl,.inr ⟨_,0,#[],rfl,hb,heap_alloc_new _ _,Nat.le_refl _,by decide,rfl,rfl⟩⟩,rfl⟩
end Go.Proofs.YtlbkekabmpienaaGreat
namespace Go.Proofs.YtlbkekabmpienaaGreat
set_option linter.unusedVariables false
set_option linter.unusedSimpArgs false
open Go.RowKit Go.ChangeShapes Go.WideShapes
set_option maxRecDepth 100000
theorem ei_i32':EI Tryz.prog 24 21 (.int .i32 0) 1 4:=⟨Tryz.underlying24,by kernel_rfl,rfl,by decide⟩
theorem clone32_any (A:Option Addr) (n c:Nat) (l:List Int) (w:World) (h:Sl (tInt .i32) w (blo w.heap.size) A n c l) (hn:n≤35184372087808) :
  Calls Tryz.prog 90 #[.slice A n c] w (RetSl (tInt .i32) w l):=by
 cases A with
 | none =>
  have hc:=h.nil_ rfl
  have hm:=h.cap_le
  obtain rfl:c=0:=hc
  obtain rfl:n=0:=by omega
  obtain rfl:l=[]:=List.length_eq_zero_iff.1 h.n_eq
  clear h
  have q0:=fun w=>Lib.run_eql_slice_nil (P:=Tryz.prog) w 24 21 none 0 0 0 0 Tryz.underlying24
  simp only [Option.isNone_none] at q0
  go_enter Tryz.func90,Tryz.ntmps90
  go_wp2_with fail
  go_ret
  exact ⟨none,0,0,rfl,Sl.nil _ _ _,Below.refl _ _⟩
 | some ad =>
  have H:=zH h
  clear h
  have q0:=fun w=>Lib.run_eql_slice_nil (P:=Tryz.prog) w 24 21 (some ad) n c 0 0 Tryz.underlying24
  simp only [Option.isNone_some] at q0
  go_enter Tryz.func90,Tryz.ntmps90
  have o0:=Own.lit0 (W:=w) (k:=.i32) (E:=21) (base:=w.heap.size) (Nat.le_refl _)
  have k0:Below w.heap.size w (w.alloc (.cells #[] 21)):=(Below.refl _ _).alloc (Nat.le_refl _) _
  have s0:=H.out.later k0 (Nat.le_refl _)
  go_wp2_with (at_builtin;refine wpList_extend rfl _ _ rfl ei_i32' rfl o0 rfl s0 (by unfold maxLen;omega) (by omega) k0.size ?_;intro v' w' o' g' a')
  go_ret
  refine o'.ret (by decide) (k0.grown g' k0.size (fun k h=>(o0.lt k h).1)) (fun b h=>h.elim)
end Go.Proofs.YtlbkekabmpienaaGreat
