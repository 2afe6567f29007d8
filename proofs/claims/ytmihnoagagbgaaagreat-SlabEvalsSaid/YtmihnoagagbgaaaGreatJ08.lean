/-
  The shape that a node makes (layers 10, 17): conv.Shape, depth.Shape, the document's.
  '==' of arrays of numbers, of 8 and of 4.
  The shape that a node makes (layers 18, 25): what they are, in numbers.
  A window's sum (layers 10, 13, 16): the plain form, flat over rows, columns, channels; by three channels' rows (lane).
  The sums of convolutions (layers 10, 14, 16, 17): what the shapes say, in whole numbers; the values.
  'make([]T, n)' of numbers as an operation by itself (in a region that draws its order); a list that is filled here and there.
  A number held between two, and made one of 8 bits.
  '!=' of two structs in a region that only reads; a literal slice of several structs (laws for the operations).
  An empty row of a call's own.
  A node that is handed back (layer 25).
  Room (layer 28): the plain law of ArenaRoom: what is placed is sound, needs no less than the peak, no more than all sizes together.
  Room (layer 28): what may be, who is there together, what meets, what fits: the program's small functions and the document's.
-/
import Derived.Test.YtmihnoagagbgaaaGreatJ06
import Derived.Test.YtmihnoagagbgaaaGreatJ04
import Derived.Test.YtmihnoagagbgaaaGreatJ02
import Derived.StillTailTactics
import Derived.Test.YtmihnoagagbgaaaGreatJ07
set_option linter.unusedVariables false
set_option linter.unusedSimpArgs false
set_option maxRecDepth 100000
set_option maxHeartbeats 16000000
namespace Go.Proofs.YtmihnoagagbgaaaGreat
open Go.RowKit Go.ChangeShapes Go.WideShapes Tryz
set_option maxRecDepth 100000
set_option maxHeartbeats 16000000
theorem gg {h v c k s p o:Int} (e:(aw h v c k s p o).2=0):1≤k∧k≤5∧1≤o∧o≤1024∧1≤c∧c≤1024:=by
 unfold aw at e
 by_cases c1:ab h v c=0
 ·rw [if_pos c1] at e;cases e
 rw [if_neg c1] at e
 by_cases c2:(aG h k s p).2 ≠ 0
 ·rw [if_pos c2] at e;exact absurd e c2
 rw [if_neg c2] at e
 by_cases c3:(aG v k s p).2 ≠ 0
 ·rw [if_pos c3] at e;exact absurd e c3
 rw [if_neg c3] at e
 by_cases c4:ab (aG h k s p).1 (aG v k s p).1 o=0
 ·rw [if_pos c4] at e;cases e
 rw [bI] at c1 c4
 have g1:1≤c∧c≤1024:=by
  split at c1
  ·omega
  ·exact absurd rfl c1
 have g2:1≤o∧o≤1024:=by
  split at c4
  ·omega
  ·exact absurd rfl c4
 have g3:1≤k∧k≤5:=by
  unfold aG at c2
  split at c2
  ·rename_i q;unfold df at q;omega
  ·exact absurd dM c2
 omega
def fR (x:ShE) (want out:Int) (d:af):ShE:=if x.2 ≠ 0 then noS x.2 else if ¬ (d.w.length:Int)=want ∨ 16384 < d.w.length ∨ ¬ (d.bias.length:Int)=out then noS 9 else x
def aN (h v c:Int) (d:af):ShE:=fR (aw h v c d.k d.s d.p d.out) (d.out*d.k*d.k*c) d.out d
def aM (h v c:Int) (d:af):ShE:=fR (aw h v c d.k d.s d.p c) (c*d.k*d.k) c d
theorem dd {a b:Int} {m n:Int} (h1:0≤a) (h2:a≤m) (h3:0≤b) (h4:b≤n) (hm:0≤m):0≤a*b∧a*b≤m*n :=
 ⟨Int.mul_nonneg h1 h3,Int.mul_le_mul h2 h4 h3 hm⟩
end Go.Proofs.YtmihnoagagbgaaaGreat
namespace Go.Proofs.YtmihnoagagbgaaaGreat
open Go Tryz
set_option maxRecDepth 100000
set_option maxHeartbeats 16000000
theorem mN {P:Program} {t e:TypeId} {k:IntKind} (w:World) (hT:P.underlying t=some (.array 4 e)) (hE:P.underlying e=some (.int k)) (hs:(P.info? e).map (·.size)=some 1) (hp:P.plainKey e=true) (a0 a1 a2 a3 b0 b1 b2 b3:Int) :
  (Op.equalIn 10000 t (.agg #[.int k a0,.int k a1,.int k a2,.int k a3]) (.agg #[.int k b0,.int k b1,.int k b2,.int k b3])).run P w=.ok ([a0,a1,a2,a3] == [b0,b1,b2,b3]) w:=by
 have hsz:(Go.sizeOf e).run P w=.ok 1 w:=by
  cases hq:P.info? e with
  | none=>simp [hq] at hs
  | some i =>
   have:i.size=1:=by simpa [hq] using hs
   simp [Go.sizeOf,typeInfo,hq,this]
 have hpart:∀ (xs:Array Value) (off:Nat),off < xs.size → (part e xs off).run P w=.ok xs[off]! w:=fun xs off h=>run_part_plain (w:=w) hp (by simp [h])
 have hq:∀ x y:Int,(Op.equalIn 9999 e (.int k x) (.int k y)).run P w=.ok (x == y) w:=fun x y=>by
  show (Op.equalIn (9998+1) e _ _).run P w=_
  exact run_equalIn_int w 9998 e k k x y hE
 show (Op.equalIn (9999+1) t _ _).run P w=_
 unfold Op.equalIn
 simp only [Sem.run_bind,run_underlying hT w,Result.andThen_ok]
 simp [Std.Legacy.Range.forIn_eq_forIn_range',Std.Legacy.Range.size,List.range',Sem.run_bind,hpart,hq,hsz]
 by_cases h0:a0=b0
 rotate_left
 ·simp [h0]
 subst h0
 try simp
 by_cases h1:a1=b1
 rotate_left
 ·simp [h1]
 subst h1
 try simp
 by_cases h2:a2=b2
 rotate_left
 ·simp [h2]
 subst h2
 try simp
 by_cases h3:a3=b3
 rotate_left
 ·simp [h3]
 subst h3
 try simp
theorem mO {P:Program} {t e:TypeId} {k:IntKind} (w:World) (hT:P.underlying t=some (.array 8 e)) (hE:P.underlying e=some (.int k)) (hs:(P.info? e).map (·.size)=some 1) (hp:P.plainKey e=true) (a0 a1 a2 a3 a4 a5 a6 a7 b0 b1 b2 b3 b4 b5 b6 b7:Int) :
  (Op.equalIn 10000 t (.agg #[.int k a0,.int k a1,.int k a2,.int k a3,.int k a4,.int k a5,.int k a6,.int k a7]) (.agg #[.int k b0,.int k b1,.int k b2,.int k b3,.int k b4,.int k b5,.int k b6,.int k b7])).run P w=.ok ([a0,a1,a2,a3,a4,a5,a6,a7] == [b0,b1,b2,b3,b4,b5,b6,b7]) w:=by
 have hsz:(Go.sizeOf e).run P w=.ok 1 w:=by
  cases hq:P.info? e with
  | none=>simp [hq] at hs
  | some i =>
   have:i.size=1:=by simpa [hq] using hs
   simp [Go.sizeOf,typeInfo,hq,this]
 have hpart:∀ (xs:Array Value) (off:Nat),off < xs.size → (part e xs off).run P w=.ok xs[off]! w:=fun xs off h=>run_part_plain (w:=w) hp (by simp [h])
 have hq:∀ x y:Int,(Op.equalIn 9999 e (.int k x) (.int k y)).run P w=.ok (x == y) w:=fun x y=>by
  show (Op.equalIn (9998+1) e _ _).run P w=_
  exact run_equalIn_int w 9998 e k k x y hE
 show (Op.equalIn (9999+1) t _ _).run P w=_
 unfold Op.equalIn
 simp only [Sem.run_bind,run_underlying hT w,Result.andThen_ok]
 simp [Std.Legacy.Range.forIn_eq_forIn_range',Std.Legacy.Range.size,List.range',Sem.run_bind,hpart,hq,hsz]
 by_cases h0:a0=b0
 rotate_left
 ·simp [h0]
 subst h0
 try simp
 by_cases h1:a1=b1
 rotate_left
 ·simp [h1]
 subst h1
 try simp
 by_cases h2:a2=b2
 rotate_left
 ·simp [h2]
 subst h2
 try simp
 by_cases h3:a3=b3
 rotate_left
 ·simp [h3]
 subst h3
 try simp
 by_cases h4:a4=b4
 rotate_left
 ·simp [h4]
 subst h4
 try simp
 by_cases h5:a5=b5
 rotate_left
 ·simp [h5]
 subst h5
 try simp
 by_cases h6:a6=b6
 rotate_left
 ·simp [h6]
 subst h6
 try simp
 by_cases h7:a7=b7
 rotate_left
 ·simp [h7]
 subst h7
 try simp
theorem gA {P : Program} {t : TypeId} {f0 f1 f2 : Field} {k0 k1 k2 : IntKind} (w : World) (hT : P.underlying t = some (.struct #[f0, f1, f2])) (hst : P.stoodInHeld t = false) (hn : f0.name ≠ "_" ∧ f1.name ≠ "_" ∧ f2.name ≠ "_") (ho : f0.offset = 0 ∧ f1.offset = 1 ∧ f2.offset = 2)
  (h0:P.underlying f0.type=some (.int k0)) (h1:P.underlying f1.type=some (.int k1)) (h2:P.underlying f2.type=some (.int k2)) (p0:P.plainKey f0.type=true) (p1:P.plainKey f1.type=true) (p2:P.plainKey f2.type=true) (a0 a1 a2 b0 b1 b2:Int) :
  (Op.equalIn 10000 t (.agg #[.int k0 a0,.int k1 a1,.int k2 a2]) (.agg #[.int k0 b0,.int k1 b1,.int k2 b2])).run P w=.ok ([a0,a1,a2] == [b0,b1,b2]) w:=by
 have q0:∀ (xs:Array Value) (off:Nat),off < xs.size → (part f0.type xs off).run P w=.ok xs[off]! w:=fun xs off h=>run_part_plain (w:=w) p0 (by simp [h])
 have q1:∀ (xs:Array Value) (off:Nat),off < xs.size → (part f1.type xs off).run P w=.ok xs[off]! w:=fun xs off h=>run_part_plain (w:=w) p1 (by simp [h])
 have q2:∀ (xs:Array Value) (off:Nat),off < xs.size → (part f2.type xs off).run P w=.ok xs[off]! w:=fun xs off h=>run_part_plain (w:=w) p2 (by simp [h])
 have e0:∀ x y:Int,(Op.equalIn 9999 f0.type (.int k0 x) (.int k0 y)).run P w=.ok (x == y) w:=fun x y=>by
  show (Op.equalIn (9998+1) _ _ _).run P w=_
  exact run_equalIn_int w 9998 f0.type k0 k0 x y h0
 have e1:∀ x y:Int,(Op.equalIn 9999 f1.type (.int k1 x) (.int k1 y)).run P w=.ok (x == y) w:=fun x y=>by
  show (Op.equalIn (9998+1) _ _ _).run P w=_
  exact run_equalIn_int w 9998 f1.type k1 k1 x y h1
 have e2:∀ x y:Int,(Op.equalIn 9999 f2.type (.int k2 x) (.int k2 y)).run P w=.ok (x == y) w:=fun x y=>by
  show (Op.equalIn (9998+1) _ _ _).run P w=_
  exact run_equalIn_int w 9998 f2.type k2 k2 x y h2
 show (Op.equalIn (9999+1) t _ _).run P w=_
 unfold Op.equalIn
 simp only [Sem.run_bind,run_underlying hT w,Result.andThen_ok]
 simp [Sem.run_bind,q0,q1,q2,e0,e1,e2,hst,hn.1,hn.2.1,hn.2.2,ho.1,ho.2.1,ho.2.2,run_program]
 by_cases h0:a0=b0
 rotate_left
 ·simp [h0]
 subst h0
 try simp
 by_cases h1:a1=b1
 rotate_left
 ·simp [h1]
 subst h1
 try simp
 by_cases h2:a2=b2
 rotate_left
 ·simp [h2]
 subst h2
 try simp
theorem dV {P:Program} {ops:Array Oper} {rest:List Oper} {o:Oper} {a:Act} {w:World} {Q:Exit → Act → World → Prop} (t u:TypeId) (x y:Operand) (ho:o.op=.binOp .eql t x y u) (xs ys:Array Value) (hx:a.eval x=.agg xs) (hy:a.eval y=.agg ys)
  (hw:Region.wanted o (yielded ops a.tmps)=true) (hm:P.eqGuardType P.depth t=false) (b:Bool) (hrun:(Op.equalIn 10000 t (.agg xs) (.agg ys)).run P w=.ok b w) (h:wpList P ops Q rest (a.put o.dst (.bool b)) w):wpList P ops Q (o :: rest) a w:=by
 refine BigFrame.wpList_want hw fun K hK=>?_
 unfold Oper.wp execOp
 simp only [ho,hx,hy,Sem.run_bind,fun w=>run_eqGuard_agg (P:=P) w .eql t x y xs ys hm,run_eql_struct,hrun,Result.andThen_ok,Sem.run_pure]
 exact hK _ _ (by simpa using h)
end Go.Proofs.YtmihnoagagbgaaaGreat
namespace Go.Proofs.YtmihnoagagbgaaaGreat
open Go.RowKit Go.ChangeShapes Go.WideShapes Tryz
set_option maxRecDepth 100000
set_option maxHeartbeats 16000000
def dq (h v c:Int) (d:af):ShE:=if ab h v c=0 ∨ ab 1 1 d.out=0 then noS 5
 else if ¬ (d.w.length:Int)=d.out*ab h v c ∨ 16384 < d.w.length ∨ ¬ (d.bias.length:Int)=d.out then noS 9 else ((1,1,d.out),0)
def cI (h v c p:Int):ShE:=if p < 0 ∨ 4 < p then noS 2 else if ab (h+2*p) (v+2*p) c=0 then noS 5 else ((h+2*p,v+2*p,c),0)
def bJ (k h v c h2 v2 c2 p:Int):ShE:=if ab h v c=0 then noS 5 else if k=6∧([h,v,c] == [h2,v2,c2])=false then noS 5
 else if k=8 then cI h v c p else if k=9 then ((1,1,ab h v c),0) else ((h,v,c),0)
def aD (h v c h2 v2 c2:Int) (d:af):ShE:=if d.kind=1 then aN h v c d else if d.kind=2 then aM h v c d else if d.kind=3 then dq h v c d
 else if d.kind=4 ∨ d.kind=5 then aw h v c d.k d.s d.p c else bJ d.kind h v c h2 v2 c2 d.p
theorem dL {h v c:Int} (e:¬ ab h v c=0):1≤h∧h≤16∧1≤v∧v≤16∧1≤c∧c≤1024:=by
 rw [bI] at e
 split at e
 ·omega
 ·exact absurd rfl e
theorem bq {P:Program} {ops:Array Oper} {rest:List Oper} {o:Oper} {a:Act} {w:World} {Q:Exit → Act → World → Prop} (t u:TypeId) (x y:Operand) (ho:o.op=.binOp .neq t x y u) (xs ys:Array Value) (hx:a.eval x=.agg xs) (hy:a.eval y=.agg ys)
  (hw:Region.wanted o (yielded ops a.tmps)=true) (hm:P.eqGuardType P.depth t=false) (b:Bool) (hrun:(Op.equalIn 10000 t (.agg xs) (.agg ys)).run P w=.ok b w) (h:wpList P ops Q rest (a.put o.dst (.bool (!b))) w):wpList P ops Q (o :: rest) a w:=by
 refine BigFrame.wpList_want hw fun K hK=>?_
 unfold Oper.wp execOp
 simp only [ho,hx,hy,Sem.run_bind,fun w=>run_eqGuard_agg (P:=P) w .neq t x y xs ys hm,run_neq_struct,hrun,Result.andThen_ok,Sem.run_pure]
 exact hK _ _ (by simpa using h)
theorem eo (w:World) (h v c h2 v2 c2:Int):(Op.equalIn 10000 24 (.agg (sN h v c)) (.agg (sN h2 v2 c2))).run prog w=.ok ([h,v,c] == [h2,v2,c2]) w :=
 gA (P:=prog) (t:=24) (k0:=.i64) (k1:=.i64) (k2:=.i64) w underlying24 kM dM ⟨rfl,rfl,rfl⟩ underlying3 underlying3 underlying3 kM kM kM h v c h2 v2 c2
end Go.Proofs.YtmihnoagagbgaaaGreat
namespace Go.Proofs.YtmihnoagagbgaaaGreat
open Tryz
def px (H V C:Nat) (l:List Int) (za:Int) (y x:Int) (c:Nat):Int:=if 0≤y∧y < H∧0≤x∧x < V then l.getD ((y.toNat*V+x.toNat)*C+c) 0 - za else 0
def ec (H V C:Nat) (l:List Int) (za:Int) (w:List Int) (K S P:Nat) (o y x:Nat):Int :=
 az (K*K*C) fun q=>w.getD (o*(K*K*C)+q) 0*px H V C l za ((y*S+q / C / K:Nat) - P) ((x*S+q / C % K:Nat) - P) (q % C)
theorem eY (i j K C c:Nat) (hj:j < K) (hc:c < C):((i*K+j)*C+c) / C / K=i∧((i*K+j)*C+c) / C % K=j∧((i*K+j)*C+c) % C=c:=by
 have h1:((i*K+j)*C+c) / C=i*K+j:=by
  rw [Nat.mul_comm,Nat.mul_add_div oM,Nat.div_eq_of_lt hc,Nat.add_zero]
 have h2:((i*K+j)*C+c) % C=c:=by
  rw [Nat.mul_comm,Nat.mul_add_mod,Nat.mod_eq_of_lt hc]
 rw [h1,h2]
 refine ⟨?_,?_,rfl⟩
 ·rw [Nat.mul_comm,Nat.mul_add_div oM,Nat.div_eq_of_lt hj,Nat.add_zero]
 ·rw [Nat.mul_comm,Nat.mul_add_mod,Nat.mod_eq_of_lt hj]
theorem pe (H V C:Nat) (l:List Int) (za:Int) (w:List Int) (K S P:Nat) (o y x:Nat) :
  ec H V C l za w K S P o y x=az K fun i=>az K fun j=>az C fun c=>w.getD (((o*K+i)*K+j)*C+c) 0*px H V C l za ((y*S+i:Nat) - P) ((x*S+j:Nat) - P) c:=by
 unfold ec
 rw [jb,jb]
 refine dg fun i hi=>dg fun j hj=>dg fun c hc=>?_
 obtain ⟨h1,h2,h3⟩:=eY i j K C c hj hc
 rw [h1,h2,h3]
 congr 2
 rw [show o*(K*K*C)+((i*K+j)*C+c)=((o*K+i)*K+j)*C+c from ?_]
 simp only [Nat.add_mul,Nat.mul_assoc,Nat.mul_add]
 ac_rfl
theorem mY (xs:List (List Int)) (ws:List W3) (p:Nat):∀ k,dh xs ws p k=az k fun r=>(xs.getD r []).getD p 0*(ws.getD r (0,0,0)).1+(xs.getD r []).getD (p+1) 0*(ws.getD r (0,0,0)).2.1+(xs.getD r []).getD (p+2) 0*(ws.getD r (0,0,0)).2.2
 | 0=>rfl
 | k+1=>by rw [dh,az,mY xs ws p k]
def eQ (H V C:Nat) (l:List Int) (za:Int) (P:Nat) (y:Int) (c:Nat):List Int:=(List.range (V+2*P)).map fun j:Nat=>px H V C l za y ((j:Int) - (P:Int)) c
def jd (w:List Int) (C:Nat) (o i c:Nat):W3:=(w.getD (((o*3+i)*3+0)*C+c) 0,w.getD (((o*3+i)*3+1)*C+c) 0,w.getD (((o*3+i)*3+2)*C+c) 0)
def ly (H V C:Nat) (l:List Int) (za:Int) (P y:Nat):List (List Int):=(List.range (3*C)).map fun r:Nat=>eQ H V C l za P ((y+r / C:Nat) - P) (r % C)
def lA (w:List Int) (C o:Nat):List W3:=(List.range (3*C)).map fun r:Nat=>jd w C o (r / C) (r % C)
theorem jS (H V C:Nat) (l:List Int) (za:Int) (P:Nat) (y:Int) (c j:Nat) (hj:j < V+2*P):(eQ H V C l za P y c).getD j 0=px H V C l za y ((j:Int) - P) c:=by
 unfold eQ
 rw [gD,List.getElem?_map,List.getElem?_range hj];rfl
theorem fy {α:Type} (n:Nat) (f:Nat → α) (z:α) (i:Nat) (h:i < n):((List.range n).map f).getD i z=f i:=by
 rw [gD,List.getElem?_map,List.getElem?_range h];rfl
theorem ux (H V C:Nat) (l:List Int) (za:Int) (w:List Int) (P o y x:Nat) (hx:x+2 < V+2*P) :
  dh (ly H V C l za P y) (lA w C o) x (3*C)=ec H V C l za w 3 1 P o y x:=by
 rw [mY,pe,jb]
 refine dg fun i hi=>?_
 rw [rM,]
 refine dg fun c hc=>?_
 have hr:i*C+c < 3*C:=by
  have:i*C≤2*C:=Nat.mul_le_mul_right C oM
  omega
 have h1:(i*C+c) / C=i:=by rw [Nat.mul_comm,Nat.mul_add_div oM,Nat.div_eq_of_lt hc,Nat.add_zero]
 have h2:(i*C+c) % C=c:=by rw [Nat.mul_comm,Nat.mul_add_mod,Nat.mod_eq_of_lt hc]
 unfold ly lA
 rw [fy _ _ _ _ hr,fy _ _ _ _ hr,h1,h2,jS _ _ _ _ _ _ _ _ _ oM,jS _ _ _ _ _ _ _ _ _ oM,jS _ _ _ _ _ _ _ _ _ oM,qd]
 simp only [jd,Nat.mul_one,Nat.add_zero]
 rw [Int.mul_comm (px _ _ _ _ _ _ ((x:Nat) - (P:Int)) _),Int.mul_comm (px _ _ _ _ _ _ ((((x+1:Nat)):Int) - (P:Int)) _),Int.mul_comm (px _ _ _ _ _ _ ((((x+2:Nat)):Int) - (P:Int)) _)]
end Go.Proofs.YtmihnoagagbgaaaGreat
namespace Go.Proofs.YtmihnoagagbgaaaGreat
open Go.RowKit Tryz
set_option maxRecDepth 100000
set_option maxHeartbeats 16000000
structure TOk (t:ae) (n H V C:Nat):Prop where
 h:t.h=H
 v:t.v=V
 c:t.c=C
 h1:1≤H∧H≤16
 v1:1≤V∧V≤16
 c1:1≤C∧C≤1024
 n_eq:n=H*V*C
 n_le:n≤1024
theorem et {h v c:Int} (e:¬ ab h v c=0):∃ H V C:Nat,h=H∧v=V∧c=C∧(1≤H∧H≤16)∧(1≤V∧V≤16)∧(1≤C∧C≤1024)∧ab h v c=(H*V*C:Nat)∧H*V*C≤1024:=by
 rw [bI] at e ⊢
 split at e
 ·rename_i q
  obtain ⟨a1,a2,a3,a4,a5,a6,a7⟩:=q
  have e1:h=(h.toNat:Int):=oM
  have e2:v=(v.toNat:Int):=oM
  have e3:c=(c.toNat:Int):=oM
  have e4:h*v*c=((h.toNat*v.toNat*c.toNat:Nat):Int):=by rw [Int.natCast_mul,Int.natCast_mul,← e1,← e2,← e3]
  refine ⟨h.toNat,v.toNat,c.toNat,e1,e2,e3,by omega,by omega,by omega,?_,?_⟩
  ·rw [if_pos ⟨a1,a2,a3,a4,a5,a6,a7⟩];exact e4
  ·have:=a7;rw [e4] at this;omega
 ·exact absurd rfl e
theorem cY {t:ae} (h:t.ok=true):∃ H V C,TOk t t.data.length H V C:=by
 simp only [ae.ok,decide_eq_true_eq] at h
 obtain ⟨H,V,C,e1,e2,e3,b1,b2,b3,e4,e5⟩:=et (h:=t.h) (v:=t.v) (c:=t.c) oM
 exact ⟨H,V,C,e1,e2,e3,b1,b2,b3,by omega,by omega⟩
structure WOk (d:af) (H V C K S P Ho Wo Co:Nat):Prop where
 k:d.k=K
 s:d.s=S
 p:d.p=P
 k1:1≤K∧K≤5
 s1:1≤S∧S≤4
 p1:P≤4∧P < K
 ho:Ho=(H+2*P - K) / S+1
 wo:Wo=(V+2*P - K) / S+1
 hk:K≤H+2*P
 vk:K≤V+2*P
 ho1:1≤Ho∧Ho≤16
 wo1:1≤Wo∧Wo≤16
 co1:1≤Co∧Co≤1024
 no:Ho*Wo*Co≤1024
theorem jL {n:Nat} {k s p:Int} {x:Int} (h:aG n k s p=(x,0)):∃ K S P:Nat,k=K∧s=S∧p=P∧(1≤K∧K≤5)∧(1≤S∧S≤4)∧(P≤4∧P < K)∧K≤n+2*P∧x=((n+2*P - K) / S+1:Nat):=by
 unfold aG at h
 split at h
 ·rename_i q
  unfold df at q
  split at h
  ·cases (Prod.mk.inj h).2
  ·have e:=(Prod.mk.inj h).1
   obtain ⟨q1,q2,q3,q4,q5,q6,q7,q8,q9⟩:=q
   refine ⟨k.toNat,s.toNat,p.toNat,by omega,by omega,by omega,by omega,by omega,by omega,by omega,?_⟩
   rw [← e]
   have a:(n:Int)+2*p - k=((n+2*p.toNat - k.toNat:Nat):Int):=oM
   have b:s=(s.toNat:Int):=oM
   rw [a,b,Int.tdiv_eq_ediv_of_nonneg oM]
   simp
 ·cases (Prod.mk.inj h).2
theorem gh {H V C:Nat} {d:af} {o x1 x2 x3:Int} (h:aw H V C d.k d.s d.p o=((x1,x2,x3),0)):∃ K S P Ho Wo Co:Nat,WOk d H V C K S P Ho Wo Co∧x1=Ho∧x2=Wo∧x3=Co∧o=Co∧ab x1 x2 x3=(Ho*Wo*Co:Nat):=by
 unfold aw at h
 by_cases c1:ab H V C=0
 ·rw [if_pos c1] at h;cases (Prod.mk.inj h).2
 rw [if_neg c1] at h
 by_cases c2:(aG H d.k d.s d.p).2 ≠ 0
 ·rw [if_pos c2] at h;exact absurd (Prod.mk.inj h).2 c2
 rw [if_neg c2] at h
 by_cases c3:(aG V d.k d.s d.p).2 ≠ 0
 ·rw [if_pos c3] at h;exact absurd (Prod.mk.inj h).2 c3
 rw [if_neg c3] at h
 by_cases c4:ab (aG H d.k d.s d.p).1 (aG V d.k d.s d.p).1 o=0
 ·rw [if_pos c4] at h;cases (Prod.mk.inj h).2
 rw [if_neg c4] at h
 obtain ⟨y1,e1⟩:∃ y,aG H d.k d.s d.p=(y,0):=⟨(aG H d.k d.s d.p).1,by rw [← Decidable.not_not.1 c2]⟩
 obtain ⟨y2,e2⟩:∃ y,aG V d.k d.s d.p=(y,0):=⟨(aG V d.k d.s d.p).1,by rw [← Decidable.not_not.1 c3]⟩
 rw [e1,e2] at h c4
 obtain ⟨K,S,P,hk,hs,hp,k1,s1,p1,hk2,f1⟩:=jL e1
 obtain ⟨K',S',P',hk',hs',hp',-,-,-,vk2,f2⟩:=jL e2
 obtain rfl:K=K':=oM
 obtain rfl:S=S':=oM
 obtain rfl:P=P':=oM
 obtain ⟨Ho,Wo,Co,g1,g2,g3,b1,b2,b3,g4,g5⟩:=et c4
 simp only at h g1 g2 g3 g4
 obtain ⟨h',-⟩:=Prod.mk.inj h
 obtain ⟨h1,h'⟩:=Prod.mk.inj h'
 obtain ⟨h2,h3⟩:=Prod.mk.inj h'
 subst h1 h2 h3
 exact ⟨K,S,P,Ho,Wo,Co,⟨hk,hs,hp,k1,s1,p1,by omega,by omega,hk2,vk2,b1,b2,b3,g5⟩,g1,g2,g3,g3,g4⟩
theorem jQ {x y:ShE} {want out:Int} {d:af} (h:fR x want out d=y) (h2:y.2=0):x=y∧(d.w.length:Int)=want∧d.w.length≤16384∧(d.bias.length:Int)=out:=by
 unfold fR at h
 split at h
 ·rename_i q;subst h;exact absurd h2 q
 ·split at h
  ·subst h;cases h2
  ·rename_i q
   refine ⟨h,?_,?_,?_⟩
   ·exact Decidable.byContradiction fun e=>q (.inl e)
   ·exact Nat.not_lt.1 fun e=>q (.inr (.inl e))
   ·exact Decidable.byContradiction fun e=>q (.inr (.inr e))
def cN (t:ae) (d:af) (Wo Co:Nat) (i:Nat):Int:=wrap32 (d.bias.getD (i % Co) 0+ec t.h.toNat t.v.toNat t.c.toNat t.data d.za d.w d.k.toNat d.s.toNat d.p.toNat (i % Co) (i / Co / Wo) (i / Co % Wo))
def aS (t:ae) (d:af):ae × Int :=
 if t.ok=true then (if (aN t.h t.v t.c d).2=0 then (⟨(aN t.h t.v t.c d).1.1,(aN t.h t.v t.c d).1.2.1,(aN t.h t.v t.c d).1.2.2,
  (List.range (ab (aN t.h t.v t.c d).1.1 (aN t.h t.v t.c d).1.2.1 (aN t.h t.v t.c d).1.2.2).toNat).map (cN t d (aN t.h t.v t.c d).1.2.1.toNat (aN t.h t.v t.c d).1.2.2.toNat)⟩,0) else (aj,(aN t.h t.v t.c d).2)) else (aj,5)
theorem fO {t:ae} {d:af} (h1:t.ok=true) (h2:(aN t.h t.v t.c d).2=0):∃ H V C K S P Ho Wo Co:Nat,TOk t t.data.length H V C∧WOk d H V C K S P Ho Wo Co∧aN t.h t.v t.c d=(((Ho:Int),(Wo:Int),(Co:Int)),0)∧d.w.length=Co*K*K*C∧d.bias.length=Co∧d.out=Co∧ab Ho Wo Co=(Ho*Wo*Co:Nat) ∧
  aS t d=(⟨Ho,Wo,Co,(List.range (Ho*Wo*Co)).map (cN t d Wo Co)⟩,0):=by
 obtain ⟨H,V,C,T⟩:=cY h1
 obtain ⟨⟨⟨x1,x2,x3⟩,e⟩,hx⟩:∃ x,aN t.h t.v t.c d=x:=⟨_,rfl⟩
 have hx':=hx
 rw [hx] at h2
 obtain rfl:e=0:=h2
 unfold aN at hx'
 obtain ⟨a,b,-,c⟩:=jQ hx' rfl
 rw [T.h,T.v,T.c] at a
 obtain ⟨K,S,P,Ho,Wo,Co,hw,e1,e2,e3,e4,e5⟩:=gh a
 subst e1 e2 e3
 refine ⟨H,V,C,K,S,P,Ho,Wo,Co,T,hw,hx,?_,by omega,e4,e5,?_⟩
 ·rw [e4,hw.k,T.c] at b
  exact_mod_cast b
 ·unfold aS
  rw [if_pos h1,hx,if_pos rfl]
  simp only [e5,Int.toNat_natCast]
def cF (Wo Co h o w j:Nat):Bool:=decide (j / Co / Wo < h ∨ (j / Co / Wo=h∧(j % Co < o ∨ (j % Co=o∧j / Co % Wo < w))))
theorem rl (Wo Co h w o j:Nat) (hw:w < Wo) (ho:o < Co):j=(h*Wo+w)*Co+o ↔ j / Co / Wo=h∧j / Co % Wo=w∧j % Co=o:=by
 constructor
 ·rintro rfl
  obtain ⟨h1,h2,h3⟩:=eY h w Wo Co o hw ho
  exact ⟨h1,h2,h3⟩
 ·rintro ⟨e1,e2,e3⟩
  have h1:=Nat.div_add_mod j Co
  have h2:=Nat.div_add_mod (j / Co) Wo
  rw [e1,e2,Nat.mul_comm] at h2
  rw [← h2,e3,Nat.mul_comm] at h1
  omega
theorem ph (Wo Co h o w j:Nat) (hw:w < Wo) (ho:o < Co):(cF Wo Co h o w j || j == (h*Wo+w)*Co+o)=cF Wo Co h o (w+1) j:=by
 rw [Bool.eq_iff_iff]
 simp only [cF,Bool.or_eq_true,decide_eq_true_eq,beq_iff_eq,rl Wo Co h w o j hw ho]
 omega
theorem qH (Wo Co h o j:Nat) (hw:0 < Wo):cF Wo Co h o Wo j=cF Wo Co h (o+1) 0 j:=by
 have:=Nat.mod_lt (j / Co) hw
 rw [Bool.eq_iff_iff]
 simp only [cF,decide_eq_true_eq]
 omega
theorem qG (Wo Co h j:Nat) (hc:0 < Co):cF Wo Co h Co 0 j=cF Wo Co (h+1) 0 0 j:=by
 have:=Nat.mod_lt j hc
 rw [Bool.eq_iff_iff]
 simp only [cF,decide_eq_true_eq]
 omega
theorem pg (Wo Co j:Nat):cF Wo Co 0 0 0 j=false:=by
 simp only [cF,decide_eq_false_iff_not]
 rintro (h|⟨-,h|⟨-,h⟩⟩) <;> exact Nat.not_lt_zero _ h
theorem qF (Ho Wo Co j:Nat) (hj:j < Ho*Wo*Co):cF Wo Co Ho 0 0 j=true:=by
 simp only [cF,decide_eq_true_eq]
 left
 have:j / Co < Ho*Wo:=Nat.div_lt_of_lt_mul (by rw [Nat.mul_comm];exact hj)
 exact Nat.div_lt_of_lt_mul (by rw [Nat.mul_comm];exact this)
end Go.Proofs.YtmihnoagagbgaaaGreat
namespace Go.Proofs.YtmihnoagagbgaaaGreat
open Go.RowKit Go.ChangeShapes Go.WideShapes Tryz
set_option maxRecDepth 100000
set_option maxHeartbeats 16000000
theorem Blk.grown0 {w w':World} {g:Nat} {e:TypeId} {cs:Array Value} (h:Blk w g e cs) (gm:w.grownBy w' none):Blk w' g e cs:=⟨(gm.block g h.lt sM).trans h.heap⟩
theorem Blk.rowR {w w':World} {g:Nat} {e:TypeId} {cs:Array Value} {r:Option Nat} (h:Blk w g e cs) (hg:w.grownBy w' r) (hne:some g ≠ r):Blk w' g e cs:=⟨by rw [hg.block g h.lt hne];exact h.heap⟩
theorem World.size_drew (w:World):w.drew.heap.size=w.heap.size:=rfl
section
variable {P:Program} {o:Oper} {a:Act} {Q:Go.Exit → Act → World → Prop} {T E:TypeId} {bytes base n:Nat} {k:IntKind}
theorem cE {K:Act → World → Prop} {W:World} (lo co:Operand) (ho:o.op=Op.makeSlice T lo co) (ei:EI P T E (.int k 0) 1 bytes) (kl kc:IntKind) (hl:a.eval lo=.int kl (n:Int)) (hc:a.eval co=.int kc (n:Int))
  (b2:bytes*n≤281474976710656) (b3:n≤maxLen) (b4:base≤W.heap.size) (h0:InK k 0)
  (h:∀ w',Own (aa k) w' (fun _=>False) base E (.slice (some ⟨W.heap.size,0,none⟩) n n) n (List.replicate n 0) → W.grownBy w' none → K (a.put o.dst (.slice (some ⟨W.heap.size,0,none⟩) n n)) w') :
  Oper.wp P o a W K Q:=by
 obtain ⟨i,hi,hz0,hz1,hz2⟩:=info_parts ei.hi
 obtain ⟨w',hrun,h1,hg⟩:=run_make_full (P:=P) W base T E i (.int k 0) 1 ei.ht hi hz0 hz1 kl kc n (by rw [hz2];exact b2) b3 b4
 unfold Oper.wp execOp
 simp only [ho,hl,hc,Sem.run_bind,hrun,Sem.run_pure,Result.andThen_ok]
 refine h w' ⟨_,h1,?_⟩ hg
 have e:(madeCells (Value.cells (.int k 0)) (n*1)).toList=(List.replicate n (0:Int)).map (Value.int k):=by
  simp [madeCells,Value.cells]
  apply List.ext_getElem sM
  intro j h1 h2
  simp [Nat.mod_one]
 rw [e]
 exact RowsOf.ints (fun x hx=>by rw [List.eq_of_mem_replicate hx];exact h0)
end
def stF (f:Nat → Int) (p:Nat → Bool) (n:Nat):List Int:=(List.range n).map fun j=>if p j=true then f j else 0
theorem iL {f:Nat → Int} {p q:Nat → Bool} {n:Nat} (h:∀ j,j < n → p j=q j):stF f p n=stF f q n:=by
 unfold stF
 apply List.map_congr_left
 intro j hj
 rw [h j (List.mem_range.1 hj)]
theorem mQ (f:Nat → Int) (p:Nat → Bool) (n:Nat) (h:∀ j,j < n → p j=false):stF f p n=List.replicate n 0:=by
 unfold stF
 apply List.ext_getElem sM
 intro i h1 h2
 simp at h1
 simp [h i h1]
theorem oT (f:Nat → Int) (p:Nat → Bool) (n:Nat) (h:∀ j,j < n → p j=true):stF f p n=(List.range n).map f:=by
 unfold stF
 apply List.map_congr_left
 intro j hj
 rw [if_pos (h j (List.mem_range.1 hj))]
theorem oU (f:Nat → Int) (p:Nat → Bool) (n i:Nat):(stF f p n).set i (f i)=stF f (fun j=>p j || j == i) n:=by
 unfold stF
 apply List.ext_getElem sM
 intro j h1 h2
 rw [List.getElem_set]
 simp only [List.getElem_map,List.getElem_range]
 by_cases e:i=j
 ·subst e;simp
 ·rw [if_neg e]
  have:(j == i)=false:=by simp;omega
  rw [this,Bool.or_false]
def eH (v lo hi:Int):Int:=if v < lo then lo else if v > hi then hi else v
theorem sk (v lo hi:Int) (w:World):Calls prog 150 (sN v lo hi) w fun e w'=>e=.returned (.int .i64 (eH v lo hi))∧w=w':=by
 unfold eH
 by_cases a1:v < lo
 ·rw [if_pos a1]
  go_in
  go_wp2
  go_ret
  exact ⟨rfl,rfl⟩
 ·rw [if_neg a1]
  by_cases a2:v > hi
  ·rw [if_pos a2]
   go_in
   go_wp2
   go_ret
   exact ⟨rfl,rfl⟩
  ·rw [if_neg a2]
   go_in
   go_wp2
   go_ret
   exact ⟨rfl,rfl⟩
theorem kt (v lo hi:Int) (w:World):Calls prog 98 (sN v lo hi) w fun e w'=>e=.returned (.int .i64 (eH v lo hi))∧w=w':=by
 unfold eH
 by_cases a1:v < lo
 ·rw [if_pos a1]
  go_in
  go_wp2
  go_ret
  exact ⟨rfl,rfl⟩
 ·rw [if_neg a1]
  by_cases a2:v > hi
  ·rw [if_pos a2]
   go_in
   go_wp2
   go_ret
   exact ⟨rfl,rfl⟩
  ·rw [if_neg a2]
   go_in
   go_wp2
   go_ret
   exact ⟨rfl,rfl⟩
def w8 (v:Int):Int:=IntKind.i8.wrap v
theorem qk (n:Int):w8 n=(n+128) % 256 - 128:=by
 unfold w8 IntKind.wrap
 simp [IntKind.bits,IntKind.signed]
 split <;> omega
theorem jM (n:Int):InK .i8 (w8 n):=by rw [aT,qk];omega
theorem jZ (v lo hi:Int) (w:World) (h0:InK .i8 lo) (h1:InK .i8 hi):Calls prog 123 #[.int .i64 v,.int .i8 lo,.int .i8 hi] w fun e w'=>e=.returned (.int .i8 (w8 (eH v lo hi)))∧w=w':=by
 rw [aT] at h0 h1
 obtain ⟨a1,a2⟩:=h0
 obtain ⟨a3,a4⟩:=h1
 go_in
 go_wp2_with (go_at_call 150;refine (sk _ _ _ _).mono ?_;rintro e w2 ⟨rfl,rfl⟩)
 go_ret
 exact ⟨rfl,rfl⟩
end Go.Proofs.YtmihnoagagbgaaaGreat
namespace Go.Proofs.YtmihnoagagbgaaaGreat
open Go Go.RowKit Tryz
set_option maxRecDepth 100000
set_option maxHeartbeats 16000000
theorem ep {P:Program} {ops:Array Oper} {rest:List Oper} {o:Oper} {a:Act} {w:World} {Q:Exit → Act → World → Prop} (hw:Region.wanted o (yielded ops a.tmps)=true) (ty:TypeId) (x:Operand) (ho:o.op=.load ty x)
  (b off:Nat) (hx:a.eval x=.pointer (some ⟨b,off,none⟩)) (cs:List Value) (d:TypeDesc) (hC:w.rangeAt b off cs)
  (hu:P.underlying ty=some d) (hd:d.isRow=true) (hi:(P.info? ty).map (·.size)=some cs.length) (h:wpList P ops Q rest (a.put o.dst (.agg cs.toArray)) w):wpList P ops Q (o :: rest) a w:=by
 refine BigFrame.wpList_want hw fun K hK=>?_
 unfold Oper.wp execOp
 simp only [ho,hx,Instr.loadAt,Instr.sureAddr,Sem.run_bind,Sem.run_pure,Result.andThen_ok,run_loadVar_mid w b off ty cs d hC hu hd hi]
 exact hK _ _ h
section
variable {P:Program} {ops:Array Oper} {rest:List Oper} {o:Oper} {a:Act} {w:World} {Q:Exit → Act → World → Prop} {T E:TypeId} {z:Value} {size bytes:Nat}
end
end Go.Proofs.YtmihnoagagbgaaaGreat
namespace Go.Proofs.YtmihnoagagbgaaaGreat
open Go.RowKit Go.ChangeShapes Go.WideShapes Tryz
set_option maxRecDepth 100000
set_option maxHeartbeats 16000000
theorem Own.lit0 {W:World} {k:IntKind} {E:TypeId} {base:Nat} (hb:base≤W.heap.size):Own (aa k) (W.alloc (.cells #[] E)) (fun _=>False) base E (.slice (some ⟨W.heap.size,0,none⟩) 0 0) 0 [] :=
 ⟨[],⟨rfl,.inr ⟨_,0,#[],rfl,hb,heap_alloc_new _ _,lR _,by decide,rfl,rfl⟩⟩,rfl⟩
def oH (d:af) (w:World) (e:Ending) (w':World):Prop :=
 ∃ (W:QA) (nw cw:Nat) (B:QA) (nb cb:Nat),e=.returned (.agg (nD d W nw cw B nb cb))∧Sl (aa .i8) w' (bin w w') W nw cw d.w∧Sl (aa .i32) w' (bin w w') B nb cb d.bias∧Below w w w'
end Go.Proofs.YtmihnoagagbgaaaGreat
namespace Go.Proofs.YtmihnoagagbgaaaGreat.Ar
open Tryz
theorem good_at {sz un:List Int} {n:Nat} (hs:∀ j,j < n → 0≤sz.getD j 0∧sz.getD j 0≤1048576) (i:Nat) (hi:i≤n):Good sz un i (atTo sz un i):=by
 induction i with
 | zero=>exact Good.nil sz un
 | succ i ih =>
  have g:=ih oM
  obtain ⟨h1,h2,_⟩:=oI (un:=un) (i:=i) (at_:=atTo sz un i) (sz:=sz) (fun j hj=>by have:=(g.bd j hj).1;have:=(hs j oM).1;omega)
  exact g.push (n:=n) oM hs h1 h2
theorem fits_at {sz un:List Int} {n:Nat} (hs:∀ j,j < n → 0≤sz.getD j 0∧sz.getD j 0≤1048576) (i:Nat) (hi:i < n) :
  0≤best sz un (atTo sz un i) i∧cand sz (atTo sz un i) i (best sz un (atTo sz un i) i)∧fits sz un (atTo sz un i) i (best sz un (atTo sz un i) i)=true:=by
 have g:=good_at (un:=un) hs i oM
 exact oI (fun j hj=>by have:=(g.bd j hj).1;have:=(hs j oM).1;omega)
theorem at_old (sz un:List Int) (i j:Nat) (hj:j < i):(atTo sz un (i+1)).getD j 0=(atTo sz un i).getD j 0:=by
 rw [atTo,getD_append,atTo_len,if_pos hj]
theorem at_new (sz un:List Int) (i:Nat):(atTo sz un (i+1)).getD i 0=best sz un (atTo sz un i) i:=by
 rw [atTo,getD_append,atTo_len,if_neg oM,if_pos rfl]
theorem rows_at {sz un:List Int} (h:mayOk sz un) (n:Nat) (hn:n≤sz.length):rowsOk sz un (atTo sz un n) n:=by
 have hs:=h.2.2
 induction n with
 | zero=>exact fun i hi=>by omega
 | succ n ih =>
  have ih:=ih oM
  have g:=good_at (un:=un) hs (n+1) hn
  have g0:=good_at (un:=un) hs n oM
  intro i hi
  by_cases e:i=n
  ·subst e
   have sm:=g.small hn h.2.1 hs i oM
   have si:=hs i oM
   refine ⟨by omega,by omega,fun j hj=>?_⟩
   have hf:=(fits_at (un:=un) hs i oM).2.2
   unfold fits at hf
   rw [decide_eq_true_eq] at hf
   have hm:=hf j hj
   rw [← at_new,← at_old sz un i j hj] at hm
   exact (meet_pair hj oM (fun j hj=>(hs j hj).1)).1 hm
  ·obtain ⟨h1,h2,h3⟩:=ih i oM
   refine ⟨by rw [at_old sz un n i oM];exact h1,by rw [at_old sz un n i oM];exact h2,fun j hj=>?_⟩
   have:=h3 j hj
   unfold pairOk at this ⊢
   rw [at_old sz un n i oM,at_old sz un n j oM]
   exact this
theorem sound_at {sz un:List Int} (h:mayOk sz un):soundOk sz un (atTo sz un sz.length) :=
 ⟨h,atTo_len _ _ _,by rw [atTo_len];exact rows_at h _ (lR _)⟩
/-! ### no more than all -/
theorem room_sum {sz un:List Int} {n:Nat} (hs:∀ j,j < n → 0≤sz.getD j 0∧sz.getD j 0≤1048576) (i:Nat) (hi:i≤n):0≤roomTo sz un i∧roomTo sz un i≤sumTo sz i:=by
 induction i with
 | zero=>exact ⟨Int.le_refl _,Int.le_refl _⟩
 | succ i ih =>
  have ih:=ih oM
  have g:=(good_at (un:=un) hs (i+1) hi).bd i oM
  rw [at_new] at g
  have si:=hs i oM
  have e1:roomTo sz un (i+1)=max (roomTo sz un i) (best sz un (atTo sz un i) i+sz.getD i 0):=rfl
  have e2:sumTo sz (i+1)=sumTo sz i+sz.getD i 0:=rfl
  omega
theorem in_room {sz un:List Int} (i:Nat) (k:Nat) (hk:k < i):(atTo sz un i).getD k 0+sz.getD k 0≤roomTo sz un i:=by
 induction i with
 | zero=>omega
 | succ i ih =>
  have e1:roomTo sz un (i+1)=max (roomTo sz un i) (best sz un (atTo sz un i) i+sz.getD i 0):=rfl
  by_cases e:k=i
  ·rw [e,at_new];omega
  ·rw [at_old sz un i k oM]
   have:=ih oM
   omega
/-! ### no less than the peak: intervals that do not meet, side by side -/
end Go.Proofs.YtmihnoagagbgaaaGreat.Ar
namespace Go.Proofs.YtmihnoagagbgaaaGreat
open Go.RowKit Go.ChangeShapes Go.WideShapes Go.Proofs.YtmihnoagagbgaaaGreat.Ar Tryz
set_option maxRecDepth 100000
set_option maxHeartbeats 16000000
theorem qy (A:QA) (n cap:Nat) (A':QA) (n' cap':Nat) (sz un:List Int) (w:World) (h:Sl (aa .i64) w (blo w) A n cap sz) (h':Sl (aa .i64) w (blo w) A' n' cap' un) :
  Calls prog 39 #[.slice A n cap,.slice A' n' cap'] w fun e w'=>e=.returned (.bool (decide (mayOk sz un)))∧w=w':=by
 have hm:n≤9223372036854775807:=lT h.cap_le h.max_le
 have hm':n'≤9223372036854775807:=lT h'.cap_le h'.max_le
 have hl:=h.n_eq
 have hl':=h'.n_eq
 obtain ⟨r,hr⟩:∃ r,decide (mayOk sz un)=r:=⟨_,rfl⟩
 rw [hr]
 have R:=zH hr
 have H:=zH h
 clear hr h h'
 by_cases c1:n=n'
 rotate_left
 ·have t1:((n:Int) != (n':Int))=true:=by simp;omega
  have R2:=zH (show false=r by rw [← R.o];symm;rw [decide_eq_false_iff_not];rintro ⟨e,_⟩;omega)
  go_in
  go_wp2
  go_ret
  exact ⟨au R2.o,rfl⟩
 ·subst c1
  have t1:((n:Int) != (n:Int))=false:=by simp
  by_cases c2:1024 < n
  ·have t2:decide ((1024:Int) < (n:Int))=true:=by simp;omega
   have R2:=zH (show false=r by rw [← R.o];symm;rw [decide_eq_false_iff_not];rintro ⟨_,e,_⟩;omega)
   clear c2
   go_in
   go_wp2
   go_ret
   exact ⟨au R2.o,rfl⟩
  ·have t2:decide ((1024:Int) < (n:Int))=false:=by simp;omega
   have HL:=zH (And.intro hl hl')
   clear hl hl' c2
   go_in
   go_wp2
   go_loopw [19] (fun i wr=>∃ k:Nat,k≤n∧i=.int .i64 k∧Hid (∀ j,j < k → 0≤sz.getD j 0∧sz.getD j 0≤1048576)∧w=wr) (fun i _=>n - (intOf i).toNat)
   case atStart=>exact ⟨0,zl _,rfl,zH (fun j hj=>by omega),rfl⟩
   case round =>
    obtain ⟨k,hk,rfl,HK,rfl⟩:=hrel
    by_cases hlt:k < n
    ·have pk:(k:Int) < (n:Int):=oM
     have t3:decide ((k:Int) < (n:Int))=true:=by simp;omega
     obtain ⟨b0,off,rfl,_,_,c0,i0⟩:=H.o.int_at k hlt
     obtain ⟨x,hx⟩:∃ x,sz.getD k 0=x:=⟨_,rfl⟩
     rw [hx] at c0 i0
     have HX:=zH hx
     clear hx i0
     by_cases g1:x < 0
     ·have t4:decide (x < 0)=true:=by simp;exact g1
      have R2:=zH (show false=r by rw [← R.o];symm;rw [decide_eq_false_iff_not];rintro ⟨_,_,e⟩;have:=e k (by rw [HL.o.1];exact hlt);rw [HX.o] at this;omega)
      clear g1
      go_wp2
      go_ret
      exact ⟨au R2.o,by trivial⟩
     ·have t4:decide (x < 0)=false:=by simp;omega
      by_cases g2:1048576 < x
      ·have t5:decide (1048576 < x)=true:=by simp;exact g2
       have R2:=zH (show false=r by rw [← R.o];symm;rw [decide_eq_false_iff_not];rintro ⟨_,_,e⟩;have:=e k (by rw [HL.o.1];exact hlt);rw [HX.o] at this;omega)
       clear g1 g2
       go_wp2
       go_ret
       exact ⟨au R2.o,by trivial⟩
      ·have t5:decide (1048576 < x)=false:=by simp;omega
       have HK2:=zH (show ∀ j,j < k+1 → 0≤sz.getD j 0∧sz.getD j 0≤1048576 from fun j hj=>by
        by_cases e:j=k
        ·rw [e,HX.o];omega
        ·exact HK.o j oM)
       clear g1 g2
       go_wp2
       exact ⟨⟨k+1,by omega,by go_num,HK2,by trivial⟩,by simp [intOf];omega⟩
    ·obtain rfl:k=n:=oM
     have t3:decide ((k:Int) < (k:Int))=false:=by simp
     have R2:=zH (show true=r by rw [← R.o];symm;rw [decide_eq_true_eq];exact ⟨by rw [HL.o.1,HL.o.2],by rw [HL.o.1];simp at t2;omega,by rw [HL.o.1];exact HK.o⟩)
     go_wp2
     go_ret
     exact ⟨au R2.o,by trivial⟩
theorem qx (A:QA) (n cap:Nat) (un:List Int) (k:Nat) (w:World) (h:Sl (aa .i64) w (blo w) A n cap un) (hk:k < n) :
  Calls prog 73 #[.slice A n cap,.int .i64 k] w fun e w'=>e=.returned (.int .i64 (max (un.getD k 0) (k:Int)))∧w=w':=by
 have hm:n≤9223372036854775807:=lT h.cap_le h.max_le
 have pk:(k:Int) < (n:Int):=oM
 obtain ⟨b0,off,rfl,_,_,c0,i0⟩:=h.int_at k hk
 generalize un.getD k 0=u at *
 obtain ⟨m,hmx⟩:∃ m,max u (k:Int)=m:=⟨_,rfl⟩
 rw [hmx]
 have HM:=zH hmx
 clear h i0 hmx
 go_in
 go_wp2_with fail
 all_goals
  go_ret
  exact ⟨da (by have:=HM.o;omega),rfl⟩
theorem mV (A:QA) (n cap:Nat) (un:List Int) (k i:Nat) (w:World) (h:Sl (aa .i64) w (blo w) A n cap un) (hk:k < n) :
  Calls prog 40 #[.slice A n cap,.int .i64 k,.int .i64 i] w fun e w'=>e=.returned (.bool (togI (un.getD k 0) k i))∧w=w':=by
 have E:=zH (qx A n cap un k w h hk)
 generalize hu:un.getD k 0=u at *
 obtain ⟨r,hr⟩:∃ r,togI u k i=r:=⟨_,rfl⟩
 rw [hr]
 have R:=zH (show decide ((i:Int)≤max u (k:Int))=r from hr)
 clear h hr
 generalize max u (k:Int)=m at *
 go_in
 go_wp2_with fail
 refine E.o.mono ?_
 rintro e w' ⟨rfl,rfl⟩
 go_wp2
 go_ret
 exact ⟨au R.o,rfl⟩
end Go.Proofs.YtmihnoagagbgaaaGreat
