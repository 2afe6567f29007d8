/-
  Tensors that may be (layer 5).
  '==' of arrays of numbers, of 8 and of 4.
  Three weights moved over a row (layer 15): the walks of wheel.Blocks, wheel.at.
  Three weights moved over rows (layer 15): the plain law: what the sums of rounds of four give back are the sums of the windows.
  Three weights moved over rows (layer 15): rows of rows; wheel.alike where all rows are as long; wheel.Many where there are rows, at most 1024, as many as weights, all as long.
-/
import Derived.Test.YtjkmjpjknmghlaaGreatJ03
import Derived.Laws.CopyOwn
import Derived.Test.YtjkmjpjknmghlaaGreatJ04
set_option linter.unusedVariables false
set_option linter.unusedSimpArgs false
namespace Go.Proofs.YtjkmjpjknmghlaaGreat
open Go.RowKit Go.ChangeShapes Go.WideShapes
set_option maxRecDepth 100000
theorem tensorRight_any (h v c:Int) (A:Option Addr) (n cap:Nat) (w:World) (h0:InK .i64 h) (h1:InK .i64 v) (h2:InK .i64 c) (hn:n≤maxLen) :
  Calls Tryz.prog 13 #[.agg (tN h v c A n cap)] w fun e w'=>e=.returned (.bool (decide (0 < elems h v c∧elems h v c=n)))∧Below w.heap.size w w':=by
 have H0:=zH h0
 have H1:=zH h1
 have H2:=zH h2
 unfold maxLen at hn
 clear h0 h1 h2
 go_enter Tryz.func13,Tryz.ntmps13
 go_wp2_with fail
 refine (elems_any h c v _ H0.out H1.out H2.out).mono ?_
 rintro e w' ⟨rfl,hb⟩
 have hc:=cell_below hb (p:=⟨w.heap.size,3,none⟩) (v:=.slice A n cap) (by simp [go_sem]) (by simp)
 generalize he:elems h v c=m at *
 have HE:=zH he
 clear he
 by_cases hm:0 < m
 ·go_wp2_with fail
  go_ret
  exact ⟨ret_bool (by rw [HE.out,Bool.eq_iff_iff];simp [hm]),((Below.refl _ _).alloc (Nat.le_refl _) _).trans (hb.mono (by simp))⟩
 ·go_wp2_with fail
  go_ret
  exact ⟨ret_bool (by rw [HE.out,Bool.eq_iff_iff];simp;omega),((Below.refl _ _).alloc (Nat.le_refl _) _).trans (hb.mono (by simp))⟩
theorem rtensorRight_any (h v c:Int) (A:Option Addr) (n cap:Nat) (w:World) (h0:InK .i64 h) (h1:InK .i64 v) (h2:InK .i64 c) (hn:n≤maxLen) :
  Calls Tryz.prog 17 #[.agg (tN h v c A n cap)] w fun e w'=>e=.returned (.bool (decide (0 < elems h v c∧elems h v c=n)))∧Below w.heap.size w w':=by
 have H0:=zH h0
 have H1:=zH h1
 have H2:=zH h2
 unfold maxLen at hn
 clear h0 h1 h2
 go_enter Tryz.func17,Tryz.ntmps17
 go_wp2_with fail
 have g1:Below w.heap.size w (w.alloc (.cells (tN h v c A n cap) 27)):=by go_grown
 have bA:=Blk.now w w.heap.size 27 (tN h v c A n cap) rfl
 generalize w.alloc (.cells (tN h v c A n cap) 27)=w0 at *
 have BA:=zH bA
 have cA:∀ (x:Ext w0) (i:Nat),x.1.cell? ⟨w.heap.size,i,none⟩=((tN h v c A n cap):Array Value)[i]?:=fun x i=>(BA.out.ext x).cell i
 clear bA
 have e1:∀ x:Ext w0,Calls Tryz.prog 29 #[.agg (sN h v c)] x.1 fun e w''=>e=.returned (.int .i64 (elems h v c))∧∃ y:Ext w0,w''=y.1 :=
  fun x=>calls_ext x (relems_any h c v _ H0.out H1.out H2.out)
 generalize hm:elems h v c=m at *
 have E1:=zH e1
 have HM:=zH hm
 clear hm e1
 by_cases hm:0 < m
 ·refine wp_region_ext w0 (by kernel_rfl) (by kernel_rfl) (Below.refl _ _) ?_
  repeat (go_big_quiet_step ((exact E1.out _)))
  refine wpQuiet_nil ?_
  rintro _ ⟨⟨w3,hb⟩,rfl⟩
  go_wp2_with fail
  go_ret
  exact ⟨ret_bool (by rw [HM.out,Bool.eq_iff_iff];simp [hm]),below_call g1 hb g1.size⟩
 ·have hd:decide (0 < m)=false:=by simp;omega
  refine wp_region_ext w0 (by kernel_rfl) (by kernel_rfl) (Below.refl _ _) ?_
  repeat (go_big_quiet_step ((exact E1.out _)))
  refine wpQuiet_nil ?_
  rintro _ ⟨⟨w3,hb⟩,rfl⟩
  go_wp2_with fail
  go_ret
  exact ⟨ret_bool (by rw [HM.out,Bool.eq_iff_iff];simp;omega),below_call g1 hb g1.size⟩
end Go.Proofs.YtjkmjpjknmghlaaGreat
namespace Go.Proofs.YtjkmjpjknmghlaaGreat
open Go
theorem run_eql_arr4 {P:Program} {t e:TypeId} {k:IntKind} (w:World) (hT:P.underlying t=some (.array 4 e)) (hE:P.underlying e=some (.int k)) (hs:(P.info? e).map (·.size)=some 1) (hp:P.plainKey e=true) (a0 a1 a2 a3 b0 b1 b2 b3:Int) :
  (Op.equalIn 10000 t (.agg #[.int k a0,.int k a1,.int k a2,.int k a3]) (.agg #[.int k b0,.int k b1,.int k b2,.int k b3])).run P w=.ok ([a0,a1,a2,a3] == [b0,b1,b2,b3]) w:=by
 have hsz:(Go.sizeOf e).run P w=.ok 1 w:=by
  cases hq:P.info? e with
  | none=>simp [hq] at hs
  | some i =>
   have:i.size=1:=by simpa [hq] using hs
   simp [Go.sizeOf,typeInfo,hq,this]
 have hpart:∀ (xs:Array Value) (off:Nat),off < xs.size → (part e xs off).run P w=.ok xs[off]! w:=fun xs off h=>run_part_plain (w:=w) hp (by simp [h])
 have hq:∀ x y:Int,(Op.equalIn 9999 e (.int k x) (.int k y)).run P w=.ok (x == y) w:=fun x y=>by
  show (Op.equalIn (9998+1) e _ _).run P w=_
  exact run_equalIn_int w 9998 e k k x y hE
 show (Op.equalIn (9999+1) t _ _).run P w=_
 unfold Op.equalIn
 simp only [Sem.run_bind,run_underlying hT w,Result.andThen_ok]
 simp [Std.Legacy.Range.forIn_eq_forIn_range',Std.Legacy.Range.size,List.range',Sem.run_bind,hpart,hq,hsz]
 by_cases h0:a0=b0
 rotate_left
 ·simp [h0]
 subst h0
 try simp
 by_cases h1:a1=b1
 rotate_left
 ·simp [h1]
 subst h1
 try simp
 by_cases h2:a2=b2
 rotate_left
 ·simp [h2]
 subst h2
 try simp
 by_cases h3:a3=b3
 rotate_left
 ·simp [h3]
 subst h3
 try simp
theorem run_eql_arr8 {P:Program} {t e:TypeId} {k:IntKind} (w:World) (hT:P.underlying t=some (.array 8 e)) (hE:P.underlying e=some (.int k)) (hs:(P.info? e).map (·.size)=some 1) (hp:P.plainKey e=true) (a0 a1 a2 a3 a4 a5 a6 a7 b0 b1 b2 b3 b4 b5 b6 b7:Int) :
  (Op.equalIn 10000 t (.agg #[.int k a0,.int k a1,.int k a2,.int k a3,.int k a4,.int k a5,.int k a6,.int k a7]) (.agg #[.int k b0,.int k b1,.int k b2,.int k b3,.int k b4,.int k b5,.int k b6,.int k b7])).run P w=.ok ([a0,a1,a2,a3,a4,a5,a6,a7] == [b0,b1,b2,b3,b4,b5,b6,b7]) w:=by
 have hsz:(Go.sizeOf e).run P w=.ok 1 w:=by
  cases hq:P.info? e with
  | none=>simp [hq] at hs
  | some i =>
   have:i.size=1:=by simpa [hq] using hs
   simp [Go.sizeOf,typeInfo,hq,this]
 have hpart:∀ (xs:Array Value) (off:Nat),off < xs.size → (part e xs off).run P w=.ok xs[off]! w:=fun xs off h=>run_part_plain (w:=w) hp (by simp [h])
 have hq:∀ x y:Int,(Op.equalIn 9999 e (.int k x) (.int k y)).run P w=.ok (x == y) w:=fun x y=>by
  show (Op.equalIn (9998+1) e _ _).run P w=_
  exact run_equalIn_int w 9998 e k k x y hE
 show (Op.equalIn (9999+1) t _ _).run P w=_
 unfold Op.equalIn
 simp only [Sem.run_bind,run_underlying hT w,Result.andThen_ok]
 simp [Std.Legacy.Range.forIn_eq_forIn_range',Std.Legacy.Range.size,List.range',Sem.run_bind,hpart,hq,hsz]
 by_cases h0:a0=b0
 rotate_left
 ·simp [h0]
 subst h0
 try simp
 by_cases h1:a1=b1
 rotate_left
 ·simp [h1]
 subst h1
 try simp
 by_cases h2:a2=b2
 rotate_left
 ·simp [h2]
 subst h2
 try simp
 by_cases h3:a3=b3
 rotate_left
 ·simp [h3]
 subst h3
 try simp
 by_cases h4:a4=b4
 rotate_left
 ·simp [h4]
 subst h4
 try simp
 by_cases h5:a5=b5
 rotate_left
 ·simp [h5]
 subst h5
 try simp
 by_cases h6:a6=b6
 rotate_left
 ·simp [h6]
 subst h6
 try simp
 by_cases h7:a7=b7
 rotate_left
 ·simp [h7]
 subst h7
 try simp
theorem run_eql_st3 {P : Program} {t : TypeId} {f0 f1 f2 : Field} {k0 k1 k2 : IntKind} (w : World) (hT : P.underlying t = some (.struct #[f0, f1, f2])) (hst : P.stoodInHeld t = false) (hn : f0.name ≠ "_" ∧ f1.name ≠ "_" ∧ f2.name ≠ "_") (ho : f0.offset = 0 ∧ f1.offset = 1 ∧ f2.offset = 2)
  (h0:P.underlying f0.type=some (.int k0)) (h1:P.underlying f1.type=some (.int k1)) (h2:P.underlying f2.type=some (.int k2)) (p0:P.plainKey f0.type=true) (p1:P.plainKey f1.type=true) (p2:P.plainKey f2.type=true) (a0 a1 a2 b0 b1 b2:Int) :
  (Op.equalIn 10000 t (.agg #[.int k0 a0,.int k1 a1,.int k2 a2]) (.agg #[.int k0 b0,.int k1 b1,.int k2 b2])).run P w=.ok ([a0,a1,a2] == [b0,b1,b2]) w:=by
 have q0:∀ (xs:Array Value) (off:Nat),off < xs.size → (part f0.type xs off).run P w=.ok xs[off]! w:=fun xs off h=>run_part_plain (w:=w) p0 (by simp [h])
 have q1:∀ (xs:Array Value) (off:Nat),off < xs.size → (part f1.type xs off).run P w=.ok xs[off]! w:=fun xs off h=>run_part_plain (w:=w) p1 (by simp [h])
 have q2:∀ (xs:Array Value) (off:Nat),off < xs.size → (part f2.type xs off).run P w=.ok xs[off]! w:=fun xs off h=>run_part_plain (w:=w) p2 (by simp [h])
 have e0:∀ x y:Int,(Op.equalIn 9999 f0.type (.int k0 x) (.int k0 y)).run P w=.ok (x == y) w:=fun x y=>by
  show (Op.equalIn (9998+1) _ _ _).run P w=_
  exact run_equalIn_int w 9998 f0.type k0 k0 x y h0
 have e1:∀ x y:Int,(Op.equalIn 9999 f1.type (.int k1 x) (.int k1 y)).run P w=.ok (x == y) w:=fun x y=>by
  show (Op.equalIn (9998+1) _ _ _).run P w=_
  exact run_equalIn_int w 9998 f1.type k1 k1 x y h1
 have e2:∀ x y:Int,(Op.equalIn 9999 f2.type (.int k2 x) (.int k2 y)).run P w=.ok (x == y) w:=fun x y=>by
  show (Op.equalIn (9998+1) _ _ _).run P w=_
  exact run_equalIn_int w 9998 f2.type k2 k2 x y h2
 show (Op.equalIn (9999+1) t _ _).run P w=_
 unfold Op.equalIn
 simp only [Sem.run_bind,run_underlying hT w,Result.andThen_ok]
 simp [Sem.run_bind,q0,q1,q2,e0,e1,e2,hst,hn.1,hn.2.1,hn.2.2,ho.1,ho.2.1,ho.2.2,run_program]
 by_cases h0:a0=b0
 rotate_left
 ·simp [h0]
 subst h0
 try simp
 by_cases h1:a1=b1
 rotate_left
 ·simp [h1]
 subst h1
 try simp
 by_cases h2:a2=b2
 rotate_left
 ·simp [h2]
 subst h2
 try simp
theorem wpList_eql_agg {P:Program} {ops:Array Oper} {rest:List Oper} {o:Oper} {a:Act} {w:World} {Q:Exit → Act → World → Prop} (t u:TypeId) (x y:Operand) (ho:o.op=.binOp .eql t x y u) (xs ys:Array Value) (hx:a.eval x=.agg xs) (hy:a.eval y=.agg ys)
  (hw:Region.wanted o (yielded ops a.tmps)=true) (hm:P.eqGuardType P.depth t=false) (b:Bool) (hrun:(Op.equalIn 10000 t (.agg xs) (.agg ys)).run P w=.ok b w) (h:wpList P ops Q rest (a.put o.dst (.bool b)) w):wpList P ops Q (o :: rest) a w:=by
 refine BigFrame.wpList_want hw fun K hK=>?_
 unfold Oper.wp execOp
 simp only [ho,hx,hy,Sem.run_bind,fun w=>run_eqGuard_agg (P:=P) w .eql t x y xs ys hm,run_eql_struct,hrun,Result.andThen_ok,Sem.run_pure]
 exact hK _ _ (by simpa using h)
end Go.Proofs.YtjkmjpjknmghlaaGreat
namespace Go.Proofs.YtjkmjpjknmghlaaGreat
open Go.RowKit Go.ChangeShapes Go.WideShapes Fx
set_option maxRecDepth 100000
set_option maxHeartbeats 2000000
def blocksV (n:Int):Int:=if n < 3 then 0 else (n - 1) / 2
theorem wheelBlocks_any (n:Int) (w:World) (h0:0≤n) (h1:n≤140737488355328) :
  Calls Tryz.prog 157 #[.int .i64 n] w fun e w'=>e=.returned (.int .i64 (blocksV n))∧w'=w:=by
 by_cases c:n < 3
 ·have hv:blocksV n=0:=if_pos c
  rw [hv]
  go_enter Tryz.func157,Tryz.ntmps157
  go_wp2_with fail
  go_ret
  exact ⟨rfl,rfl⟩
 ·have hv:blocksV n=(n - 2+1) / 2:=by unfold blocksV;rw [if_neg c];omega
  rw [hv]
  go_enter Tryz.func157,Tryz.ntmps157
  go_wp2_with fail
  go_ret
  exact ⟨rfl,rfl⟩
def at4 (l:List Int) (p:Nat):Nat → Int:=fun j=>l.getD (p+j) 0
theorem at4_splice (l:List Int) (p:Nat):splice [Value.int .i16 0,.int .i16 0,.int .i16 0,.int .i16 0] 0 (((l.drop p).take 4).map (Value.int .i16))=(i4 .i16 (at4 l p)).toList:=by
 have h:∀ j,at4 l p j=(l.drop p).getD j 0:=fun j=>by simp [at4,List.getD_eq_getElem?_getD,List.getElem?_drop]
 unfold i4
 rw [h,h,h,h]
 generalize l.drop p=m
 match m with
 | []=>rfl
 | [a]=>rfl
 | [a,b]=>rfl
 | [a,b,c]=>rfl
 | a :: b :: c :: d :: r=>simp [splice]
theorem wheelAt_any (A:Option Addr) (n cap:Nat) (l:List Int) (p:Nat) (w:World) (hl:Sl (tInt .i16) w (blo w.heap.size) A n cap l) (hp:p < n) :
  Calls Tryz.prog 161 #[.slice A n cap,.int .i64 p] w fun e w'=>e=.returned (.agg (i4 .i16 (at4 l p)))∧Below w.heap.size w w':=by
 obtain ⟨b,off,rfl,hb1,hb2,-,-⟩:=hl.int_at p hp
 have hcap:=hl.cap_le
 have hmax:=hl.max_le
 have hmx:maxLen≤9223372036854775807:=by decide
 have FR:=zH (Far.refl w)
 have L:=zH (Old.now hl)
 obtain ⟨w1,hw_w1,BO,k_w1⟩:=nB w #[.int .i16 0,.int .i16 0,.int .i16 0,.int .i16 0] 210
 replace FR:=zH (FR.out.fut k_w1)
 replace L:=zH (L.out.fut k_w1)
 clear k_w1
 obtain ⟨w2,hw_w2,BC,k_w2⟩:=nB w1 #[.int .i16 0,.int .i16 0,.int .i16 0,.int .i16 0] 210
 replace FR:=zH (FR.out.fut k_w2)
 replace L:=zH (L.out.fut k_w2)
 replace BO:=zH (BO.out.fut k_w2)
 clear k_w2
 have l1:w.heap.size < w1.heap.size:=by rw [← hw_w1];simp
 clear hl
 have p1:(p:Int)≤n:=by omega
 have p2:(n:Int)≤cap:=by omega
 have p3:(cap:Int)≤9223372036854775807:=by omega
 go_enter Tryz.func161,Tryz.ntmps161
 go_wp2_with fail
 clear hw_w1 hw_w2
 obtain ⟨cs,hcs⟩:∃ cs,((l.drop p).take 4).map (Value.int .i16)=cs:=⟨_,rfl⟩
 have hll:=L.out.out.n_eq
 have hlen:cs.length=Nat.min (n - p) 4:=by rw [← hcs,List.length_map,List.length_take,List.length_drop,hll];exact Nat.min_comm _ _
 have hlen4:cs.length≤4:=by rw [hlen];exact Nat.min_le_right _ _
 have SRC:=zH (show ∀ j v,cs[j]?=some v → w2.drew.cell? ((⟨b,off+p,none⟩:Addr).add j)=some v from by
  intro j v hv
  have hj:j < cs.length:=(List.getElem?_eq_some_iff.1 hv).1
  have hj2:p+j < n:=by rw [hlen] at hj;have:=Nat.min_le_left (n - p) 4;have:j < n - p:=Nat.lt_of_lt_of_le hj this;omega
  obtain ⟨b',off',e',-,-,hc,-⟩:=L.out.draw.out.int_at (p+j) hj2
  simp only [Option.some.injEq,Addr.mk.injEq,and_true] at e'
  obtain ⟨rfl,rfl⟩:=e'
  have ea:(⟨b,off+p,none⟩:Addr).add j=⟨b,off+(p+j),none⟩:=by unfold Addr.add;split <;> simp_all <;> omega
  rw [ea,hc]
  rw [← hcs,List.getElem?_map,List.getElem?_take] at hv
  split at hv
  ·rw [List.getElem?_drop] at hv
   cases hq:l[p+j]? with
   | none=>rw [hq] at hv;cases hv
   | some x=>rw [hq] at hv;rw [List.getD_eq_getElem?_getD,hq];exact hv
  ·cases hv)
 refine wp_region_held_drew (S:=fun w'=>True) (by kernel_rfl) ?_ (fun hS=>?_)
 ·exact trivial
 refine kH 0 rfl hS ?_
 try simp only [pX]
 refine kH 1 rfl hS ?_
 try simp only [pX]
 refine kH 2 rfl hS ?_
 try simp only [pX]
 refine kH 3 rfl hS ?_
 try simp only [pX]
 refine rH 4 rfl (fun K hK=>?_)
 refine step_copy_splice rfl (.tmp 6) (.tmp 9) 170 170 rfl 192 (by rw [Tryz.underlying170]) (by kernel_rfl) (some ⟨w1.heap.size,0,none⟩) (some ⟨b,off+p,none⟩) 4 4 (n - p) (cap - p) rfl (by show Value.slice (if cap=p then _ else _) (n - p) (cap - p)=_;rw [if_neg (by omega)]) w1.heap.size 0 [.int .i16 0,.int .i16 0,.int .i16 0,.int .i16 0] 210 BC.out.draw.heap cs hlen (fun _=>⟨rfl,_,rfl,SRC.out⟩) (by simp;omega) (by intro v hv;rw [← hcs,List.mem_map] at hv;obtain ⟨x,-,rfl⟩:=hv;rfl) w1.heap.size w2.drew (Below.refl _ _) (Nat.le_refl _) ?_;intro w5 HG hb5;refine hK.out _ _ trivial (fun hS=>?_)
 clear hK K
 try simp only [pX]
 refine wpAnyH_done (by kernel_rfl) ?_ _
 have B5:Blk w5 w1.heap.size 210 (i4 .i16 (at4 l p)):=⟨by have h:=HG.out;rw [← hcs,at4_splice] at h;simpa using h⟩
 have BO5:=BO.out.draw.below hb5 l1
 have F5:Below w.heap.size w w5:=FR.out.draw.out.trans (hb5.mono (by omega))
 clear hS HG hb5 BC BO FR L SRC hcs hlen hlen4
 go_wp2_with (first|(refine wpList_load_blk rfl 210 (.tmp 5) rfl w1.heap.size 0 rfl _ (i4 .i16 (at4 l p)) (i4 .i16 (at4 l p)) _ B5 Tryz.underlying210 rfl (by show _=some 4;kernel_rfl) rfl ?_)|(refine wpList_store_all rfl 210 (.tmp 4) (.tmp 11) rfl w.heap.size (i4 .i16 (at4 l p)) rfl rfl _ _ BO5 rfl (by show _=some 4;kernel_rfl) (i4_one _ _) ?_;intro w6 B6 g6))
 refine ret_array rfl B6 rfl Tryz.underlying210 (by show _=some 4;kernel_rfl) rfl ?_
 exact ⟨rfl,F5.grown g6 F5.size (fun j hj=>by have:=Option.some.inj hj;omega)⟩
end Go.Proofs.YtjkmjpjknmghlaaGreat
namespace Go.Proofs.YtjkmjpjknmghlaaGreat
open Fx
abbrev W3:=Int × Int × Int
def t3 (v:W3):Nat → Int:=w3Z v.1 v.2.1 v.2.2
def accW (xs:List (List Int)) (ws:List W3) (p:Nat):Nat → Nat → Fx.Wd
 | 0=>fun _=>(0,0)
 | k+1=>plusW (accW xs ws p k) (timesW (ofW (at4 (xs.getD k []) p)) (ofW (t3 (ws.getD k (0,0,0)))))
def accZ (xs:List (List Int)) (ws:List W3) (p:Nat):Nat → Nat → Int × Int
 | 0=>fun _=>(0,0)
 | k+1=>fun i=>cadd (accZ xs ws p k i) (crossZ (at4 (xs.getD k []) p) (t3 (ws.getD k (0,0,0))) i)
def winV (xs:List (List Int)) (ws:List W3) (p:Nat):Nat → Int
 | 0=>0
 | k+1=>winV xs ws p k+((xs.getD k []).getD p 0*(ws.getD k (0,0,0)).1+(xs.getD k []).getD (p+1) 0*(ws.getD k (0,0,0)).2.1+(xs.getD k []).getD (p+2) 0*(ws.getD k (0,0,0)).2.2)
def In3 (v:W3):Prop:=InK .i8 v.1∧InK .i8 v.2.1∧InK .i8 v.2.2
structure RowsOk (xs:List (List Int)) (ws:List W3):Prop where
 row:∀ k i,InK .i16 ((xs.getD k []).getD i 0)
 tap:∀ k,In3 (ws.getD k (0,0,0))
theorem RowsOk.at4 {xs:List (List Int)} {ws:List W3} (h:RowsOk xs ws) (k p:Nat):∀ i,i < 4 → (Go.Proofs.YtjkmjpjknmghlaaGreat.at4 (xs.getD k []) p i).natAbs≤32768:=fun i _=>by
 have:=h.row k (p+i)
 rw [inK_i16] at this
 unfold Go.Proofs.YtjkmjpjknmghlaaGreat.at4
 omega
theorem RowsOk.t3 {xs:List (List Int)} {ws:List W3} (h:RowsOk xs ws) (k:Nat):∀ i,i < 4 → (Go.Proofs.YtjkmjpjknmghlaaGreat.t3 (ws.getD k (0,0,0)) i).natAbs≤128:=fun i _=>by
 obtain ⟨h1,h2,h3⟩:=h.tap k
 rw [inK_i8] at h1 h2 h3
 unfold Go.Proofs.YtjkmjpjknmghlaaGreat.t3 w3Z
 split <;> omega
theorem cross_ok {xs:List (List Int)} {ws:List W3} (h:RowsOk xs ws) (p k i:Nat) :
  cMulBits (ofW (at4 (xs.getD k []) p) i).1 (ofW (at4 (xs.getD k []) p) i).2 (ofW (t3 (ws.getD k (0,0,0))) i).1 (ofW (t3 (ws.getD k (0,0,0))) i).2
   = some ((timesW (ofW (at4 (xs.getD k []) p)) (ofW (t3 (ws.getD k (0,0,0)))) i).1,(timesW (ofW (at4 (xs.getD k []) p)) (ofW (t3 (ws.getD k (0,0,0)))) i).2)
  ∧ Cd (timesW (ofW (at4 (xs.getD k []) p)) (ofW (t3 (ws.getD k (0,0,0)))) i) (crossZ (at4 (xs.getD k []) p) (t3 (ws.getD k (0,0,0))) i)
  ∧ Cb (crossZ (at4 (xs.getD k []) p) (t3 (ws.getD k (0,0,0))) i) 134217728:=by
 obtain ⟨a1,a2⟩:=of_ok (h.at4 k p) (by decide) i
 obtain ⟨b1,b2⟩:=of_ok (h.t3 k) (by decide) i
 obtain ⟨c1,c2⟩:=mulW_ok a1 b1 a2 b2 (by decide)
 exact ⟨c1,c2,(a2.cmul b2).le (by decide)⟩
theorem acc_ok {xs:List (List Int)} {ws:List W3} (h:RowsOk xs ws) (p:Nat):∀ k,k≤1024 → ∀ i,Cd (accW xs ws p k i) (accZ xs ws p k i)∧Cb (accZ xs ws p k i) (k*134217728)
 | 0,_,i=>⟨cd_zero,by simp [accZ],by simp [accZ]⟩
 | k+1,hk,i=>by
  obtain ⟨h1,h2⟩:=acc_ok h p k (by omega) i
  obtain ⟨-,h3,h4⟩:=cross_ok h p k i
  have h5:=h2.cadd h4
  refine ⟨(addW_ok h1 h3 (h5.le (by omega))).2,?_⟩
  exact h5.le (by omega)
theorem acc_add {xs:List (List Int)} {ws:List W3} (h:RowsOk xs ws) (p k:Nat) (hk:k < 1024) (i:Nat) :
  cSumBits .add .f64 (accW xs ws p k i).1 (accW xs ws p k i).2 (timesW (ofW (at4 (xs.getD k []) p)) (ofW (t3 (ws.getD k (0,0,0)))) i).1 (timesW (ofW (at4 (xs.getD k []) p)) (ofW (t3 (ws.getD k (0,0,0)))) i).2
   = some ((plusW (accW xs ws p k) (timesW (ofW (at4 (xs.getD k []) p)) (ofW (t3 (ws.getD k (0,0,0))))) i).1,(plusW (accW xs ws p k) (timesW (ofW (at4 (xs.getD k []) p)) (ofW (t3 (ws.getD k (0,0,0))))) i).2):=by
 obtain ⟨h1,h2⟩:=acc_ok h p k (by omega) i
 obtain ⟨-,h3,h4⟩:=cross_ok h p k i
 exact (addW_ok h1 h3 ((h2.cadd h4).le (by omega))).1
theorem cmul_add (a b q:Int × Int):cmul (cadd a b) q=cadd (cmul a q) (cmul b q):=by
 unfold cmul cadd
 simp only [Prod.mk.injEq]
 constructor <;> grind
theorem turnZ_add (q a b:Int × Int):∀ n,turnZ q (cadd a b) n=cadd (turnZ q a n) (turnZ q b n)
 | 0=>rfl
 | n+1=>by
  show cmul (turnZ q (cadd a b) n) q=_
  rw [turnZ_add q a b n,cmul_add]
  rfl
theorem cadd_comm4 (a b c d:Int × Int):cadd (cadd a b) (cadd c d)=cadd (cadd a c) (cadd b d):=by
 unfold cadd
 simp only [Prod.mk.injEq]
 constructor <;> omega
theorem sumZ_add (q:Int × Int) (f g:Nat → Int × Int) (k:Nat):∀ j,sumZ q (fun i=>cadd (f i) (g i)) k j=cadd (sumZ q f k j) (sumZ q g k j)
 | 0=>rfl
 | j+1=>by
  show cadd (sumZ q (fun i=>cadd (f i) (g i)) k j) (turnZ q (cadd (f j) (g j)) ((j*k) % 4))=_
  rw [sumZ_add q f g k j,turnZ_add,cadd_comm4]
  rfl
theorem sums_zero (q:Int × Int) (k:Nat) (h:Quarter q):sumsZ q (fun _=>(0,0)) k=(0,0):=by
 have ht:∀ n,turnZ q (0,0) n=(0,0):=by
  intro n
  induction n with
  | zero=>rfl
  | succ n ih=>show cmul (turnZ q (0,0) n) q=_;rw [ih];unfold cmul;simp
 have hs:∀ j,sumZ q (fun _=>(0,0)) k j=(0,0):=by
  intro j
  induction j with
  | zero=>rfl
  | succ j ih=>show cadd (sumZ q (fun _=>(0,0)) k j) (turnZ q (0,0) _)=_;rw [ih,ht];rfl
 exact hs 4
theorem back_acc (xs:List (List Int)) (ws:List W3) (p:Nat):∀ k,(sumsZ (0,1) (accZ xs ws p k) 2).1=4*winV xs ws p k∧(sumsZ (0,1) (accZ xs ws p k) 3).1=4*winV xs ws (p+1) k
 | 0=>by
  have h2:=sums_zero (0,1) 2 (.inl rfl)
  have h3:=sums_zero (0,1) 3 (.inl rfl)
  constructor
  ·show (sumsZ (0,1) (fun _=>(0,0)) 2).1=_;rw [h2];rfl
  ·show (sumsZ (0,1) (fun _=>(0,0)) 3).1=_;rw [h3];rfl
 | k+1=>by
  obtain ⟨h1,h2⟩:=back_acc xs ws p k
  obtain ⟨h3,h4⟩:=back_cross (at4 (xs.getD k []) p) (t3 (ws.getD k (0,0,0)))
  constructor
  ·show (sumZ (0,1) (fun i=>cadd (accZ xs ws p k i) (crossZ (at4 (xs.getD k []) p) (t3 (ws.getD k (0,0,0))) i)) 2 4).1=_
   rw [sumZ_add]
   show (sumsZ (0,1) (accZ xs ws p k) 2).1+(sumsZ (0,1) (crossZ (at4 (xs.getD k []) p) (t3 (ws.getD k (0,0,0)))) 2).1=_
   rw [h1,h3]
   simp only [winV,at4,t3,w3Z,Nat.add_zero]
   omega
  ·show (sumZ (0,1) (fun i=>cadd (accZ xs ws p k i) (crossZ (at4 (xs.getD k []) p) (t3 (ws.getD k (0,0,0))) i)) 3 4).1=_
   rw [sumZ_add]
   show (sumsZ (0,1) (accZ xs ws p k) 3).1+(sumsZ (0,1) (crossZ (at4 (xs.getD k []) p) (t3 (ws.getD k (0,0,0)))) 3).1=_
   rw [h2,h4]
   simp only [winV,at4,t3,w3Z,Nat.add_assoc,Nat.reduceAdd]
   omega
theorem backZ_acc (xs:List (List Int)) (ws:List W3) (p k:Nat):backZ (accZ xs ws p k) 2=winV xs ws p k∧backZ (accZ xs ws p k) 3=winV xs ws (p+1) k:=by
 obtain ⟨h1,h2⟩:=back_acc xs ws p k
 unfold backZ
 rw [h1,h2]
 exact ⟨Int.mul_tdiv_cancel_left _ (by decide),Int.mul_tdiv_cancel_left _ (by decide)⟩
end Go.Proofs.YtjkmjpjknmghlaaGreat
namespace Go.Proofs.YtjkmjpjknmghlaaGreat
open Go.RowKit Go.ChangeShapes Go.WideShapes Fx
set_option maxRecDepth 100000
set_option maxHeartbeats 2000000
theorem Sl.row_at {α:Type} {t:Ty α} {w:World} {S:Nat → Prop} {X:Option Addr} {n cap:Nat} {xs:List (List α)} (h:Sl (tSlice t) w S X n cap xs) (i:Nat) (hi:i < n) :
  ∃ b off A c,X=some ⟨b,off,none⟩∧S b∧w.cell? ⟨b,off+i,none⟩=some (.slice A (xs.getD i []).length c)∧Sl t w S A (xs.getD i []).length c (xs.getD i []):=by
 obtain ⟨x,b,off,v,hx,hA,hS,hb,hr,hc⟩:=h.cell1 rfl i hi
 obtain ⟨A,c,hv,hs⟩:=tSlice_iff.1 hr
 simp only [List.cons.injEq,and_true] at hv
 subst hv
 have:xs.getD i []=x:=by rw [List.getD_eq_getElem?_getD,hx];rfl
 rw [this]
 exact ⟨b,off,A,c,hA,hS,hc,hs⟩
theorem alike_any (X:Option Addr) (n cap m:Nat) (xs:List (List Int)) (w:World) (h:Sl (tSlice (tInt .i16)) w (blo w.heap.size) X n cap xs) (hn:1≤n) (hm:∀ i,i < n → (xs.getD i []).length=m) :
  Calls Tryz.prog 155 #[.slice X n cap] w fun e w'=>e=.returned (.bool true)∧w'=w:=by
 obtain ⟨b,off,A0,q0,rfl,-,hc0,hs0⟩:=h.row_at 0 (by omega)
 rw [hm 0 (by omega)] at hc0 hs0
 rw [Nat.add_zero] at hc0
 have hcap:=h.cap_le
 have hmax:=h.max_le
 have hmx:maxLen≤9223372036854775807:=by decide
 have hm2:=hs0.cap_le
 have hm3:=hs0.max_le
 have H:=zH h
 have HM:=zH hm
 clear h hm
 go_enter Tryz.func155,Tryz.ntmps155
 go_wp2_with fail
 go_loopw [7] (fun i wr=>∃ k:Nat,k≤n∧i=.int .i64 k∧wr=w) (fun i _=>n - (intOf i).toNat)
 case atStart=>exact ⟨0,Nat.zero_le _,rfl,rfl⟩
 case round =>
  obtain ⟨k,hk,rfl,rfl⟩:=hrel
  by_cases hlt:k < n
  ·have p1:(k:Int) < (n:Int):=by omega
   obtain ⟨b',off',A',c',e',-,hc,-⟩:=H.out.row_at k hlt
   simp only [Option.some.injEq,Addr.mk.injEq,and_true] at e'
   obtain ⟨rfl,rfl⟩:=e'
   rw [HM.out k hlt] at hc
   go_wp2_with fail
   exact ⟨⟨k+1,by omega,by go_num,by trivial⟩,by simp [intOf];omega⟩
  ·obtain rfl:k=n:=by omega
   go_wp2_with fail
   go_ret
   exact ⟨rfl,by trivial⟩
end Go.Proofs.YtjkmjpjknmghlaaGreat
