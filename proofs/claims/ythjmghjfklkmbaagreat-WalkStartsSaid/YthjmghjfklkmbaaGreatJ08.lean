/-
  slices.Clone of []int8.
  A node that is handed back (layer 25).
  The shape that a node makes (layers 10, 17): conv.Shape, depth.Shape, the document's.
  The shape that a node makes (layers 18, 25): what they are, in numbers.
  The shape that a node makes (layers 18, 25): kinds.around.
  Which values a node takes (layer 27): takes, there, of; the document's There, second.
  A scope in which the run may jump ahead to one label, once.
  A product is shifted and rounded (layer 2): fix.Round, the document's Round.
  A node that lays all numbers in a row, as data.
  The document's comparison of equal tensors (layer 5).
-/
import Derived.Test.YthjmghjfklkmbaaGreatJ06
set_option linter.unusedVariables false
set_option linter.unusedSimpArgs false
namespace Go.Proofs.YthjmghjfklkmbaaGreat
open Go.RowKit Go.ChangeShapes Go.WideShapes
set_option maxRecDepth 100000
theorem ei_i8':EI Tryz.prog 27 66 (.int .i8 0) 1 1:=⟨Tryz.underlying27,by kernel_rfl,rfl,by decide⟩
theorem clone8_any (A:Option Addr) (n c:Nat) (l:List Int) (w:World) (h:Sl (tInt .i8) w (blo w.heap.size) A n c l) (hn:n≤140737488351232) :
  Calls Tryz.prog 44 #[.slice A n c] w (RetSl (tInt .i8) w l):=by
 cases A with
 | none =>
  have hc:=h.nil_ rfl
  have hm:=h.cap_le
  obtain rfl:c=0:=hc
  obtain rfl:n=0:=by omega
  obtain rfl:l=[]:=List.length_eq_zero_iff.1 h.n_eq
  clear h
  have q0:=fun w=>Lib.run_eql_slice_nil (P:=Tryz.prog) w 27 66 none 0 0 0 0 Tryz.underlying27
  simp only [Option.isNone_none] at q0
  go_enter Tryz.func44,Tryz.ntmps44
  go_wp2_with fail
  go_ret
  exact ⟨none,0,0,rfl,Sl.nil _ _ _,Below.refl _ _⟩
 | some ad =>
  have H:=zH h
  clear h
  have q0:=fun w=>Lib.run_eql_slice_nil (P:=Tryz.prog) w 27 66 (some ad) n c 0 0 Tryz.underlying27
  simp only [Option.isNone_some] at q0
  go_enter Tryz.func44,Tryz.ntmps44
  have o0:=Own.lit0 (W:=w) (k:=.i8) (E:=66) (base:=w.heap.size) (Nat.le_refl _)
  have k0:Below w.heap.size w (w.alloc (.cells #[] 66)):=(Below.refl _ _).alloc (Nat.le_refl _) _
  have s0:=H.out.later k0 (Nat.le_refl _)
  go_wp2_with (at_builtin;refine wpList_extend rfl _ _ rfl ei_i8' rfl o0 rfl s0 (by unfold maxLen;omega) (by omega) k0.size ?_;intro v' w' o' g' a')
  go_ret
  refine o'.ret (by decide) (k0.grown g' k0.size (fun k h=>(o0.lt k h).1)) (fun b h=>h.elim)
def RetNode (d:Node) (w:World) (e:Ending) (w':World):Prop :=
 ∃ (W:Option Addr) (nw cw:Nat) (B:Option Addr) (nb cb:Nat),e=.returned (.agg (nN d.kind d.a d.b d.k d.s d.p d.out d.za d.zb W nw cw B nb cb d.qm d.qs d.qz d.rm d.rs d.rz d.lo d.hi))∧Sl (tInt .i8) w' (bin w.heap.size w'.heap.size) W nw cw d.w∧Sl (tInt .i32) w' (bin w.heap.size w'.heap.size) B nb cb d.bias∧Below w.heap.size w w'
theorem slideV_ok {h v c k s p o:Int} (e:(slideV h v c k s p o).2=0):1≤k∧k≤5∧1≤o∧o≤1024∧1≤c∧c≤1024:=by
 unfold slideV at e
 by_cases c1:elems h v c=0
 ·rw [if_pos c1] at e;cases e
 rw [if_neg c1] at e
 by_cases c2:(stepsV h k s p).2 ≠ 0
 ·rw [if_pos c2] at e;exact absurd e c2
 rw [if_neg c2] at e
 by_cases c3:(stepsV v k s p).2 ≠ 0
 ·rw [if_pos c3] at e;exact absurd e c3
 rw [if_neg c3] at e
 by_cases c4:elems (stepsV h k s p).1 (stepsV v k s p).1 o=0
 ·rw [if_pos c4] at e;cases e
 rw [elems_iff] at c1 c4
 have g1:1≤c∧c≤1024:=by
  split at c1
  ·omega
  ·exact absurd rfl c1
 have g2:1≤o∧o≤1024:=by
  split at c4
  ·omega
  ·exact absurd rfl c4
 have g3:1≤k∧k≤5:=by
  unfold stepsV at c2
  split at c2
  ·rename_i q;unfold stepOk at q;omega
  ·exact absurd (by decide) c2
 omega
def fitV (x:ShE) (want out:Int) (d:Node):ShE:=if x.2 ≠ 0 then noS x.2 else if ¬ (d.w.length:Int)=want ∨ 16384 < d.w.length ∨ ¬ (d.bias.length:Int)=out then noS 9 else x
def convV (h v c:Int) (d:Node):ShE:=fitV (slideV h v c d.k d.s d.p d.out) (d.out*d.k*d.k*c) d.out d
def depthV (h v c:Int) (d:Node):ShE:=fitV (slideV h v c d.k d.s d.p c) (c*d.k*d.k) c d
theorem prod_bd {a b:Int} {m n:Int} (h1:0≤a) (h2:a≤m) (h3:0≤b) (h4:b≤n) (hm:0≤m):0≤a*b∧a*b≤m*n :=
 ⟨Int.mul_nonneg h1 h3,Int.mul_le_mul h2 h4 h3 hm⟩
def denseV (h v c:Int) (d:Node):ShE:=if elems h v c=0 ∨ elems 1 1 d.out=0 then noS 5
 else if ¬ (d.w.length:Int)=d.out*elems h v c ∨ 16384 < d.w.length ∨ ¬ (d.bias.length:Int)=d.out then noS 9 else ((1,1,d.out),0)
def aroundV (h v c p:Int):ShE:=if p < 0 ∨ 4 < p then noS 2 else if elems (h+2*p) (v+2*p) c=0 then noS 5 else ((h+2*p,v+2*p,c),0)
def plainV (k h v c h2 v2 c2 p:Int):ShE:=if elems h v c=0 then noS 5 else if k=6∧([h,v,c] == [h2,v2,c2])=false then noS 5
 else if k=8 then aroundV h v c p else if k=9 then ((1,1,elems h v c),0) else ((h,v,c),0)
def shapeV (h v c h2 v2 c2:Int) (d:Node):ShE:=if d.kind=1 then convV h v c d else if d.kind=2 then depthV h v c d else if d.kind=3 then denseV h v c d
 else if d.kind=4 ∨ d.kind=5 then slideV h v c d.k d.s d.p c else plainV d.kind h v c h2 v2 c2 d.p
theorem elems_bd {h v c:Int} (e:¬ elems h v c=0):1≤h∧h≤16∧1≤v∧v≤16∧1≤c∧c≤1024:=by
 rw [elems_iff] at e
 split at e
 ·omega
 ·exact absurd rfl e
theorem wpList_neq_agg {P:Program} {ops:Array Oper} {rest:List Oper} {o:Oper} {a:Act} {w:World} {Q:Exit → Act → World → Prop} (t u:TypeId) (x y:Operand) (ho:o.op=.binOp .neq t x y u) (xs ys:Array Value) (hx:a.eval x=.agg xs) (hy:a.eval y=.agg ys)
  (hw:Region.wanted o (yielded ops a.tmps)=true) (hm:P.eqGuardType P.depth t=false) (b:Bool) (hrun:(Op.equalIn 10000 t (.agg xs) (.agg ys)).run P w=.ok b w) (h:wpList P ops Q rest (a.put o.dst (.bool (!b))) w):wpList P ops Q (o :: rest) a w:=by
 refine BigFrame.wpList_want hw fun K hK=>?_
 unfold Oper.wp execOp
 simp only [ho,hx,hy,Sem.run_bind,fun w=>run_eqGuard_agg (P:=P) w .neq t x y xs ys hm,run_neq_struct,hrun,Result.andThen_ok,Sem.run_pure]
 exact hK _ _ (by simpa using h)
theorem eq_shape (w:World) (h v c h2 v2 c2:Int):(Op.equalIn 10000 23 (.agg (sN h v c)) (.agg (sN h2 v2 c2))).run Tryz.prog w=.ok ([h,v,c] == [h2,v2,c2]) w :=
 run_eql_st3 (P:=Tryz.prog) (t:=23) (k0:=.i64) (k1:=.i64) (k2:=.i64) w Tryz.underlying23 (by kernel_rfl) (by decide) ⟨rfl,rfl,rfl⟩ Tryz.underlying3 Tryz.underlying3 Tryz.underlying3 (by kernel_rfl) (by kernel_rfl) (by kernel_rfl) h v c h2 v2 c2
set_option maxHeartbeats 8000000 in
theorem karound_any (h v c p:Int) (w:World) (hb:1≤h∧h≤16∧1≤v∧v≤16∧1≤c∧c≤1024) (hp:InK .i64 p) :
  Calls Tryz.prog 108 #[.agg (sN h v c),.int .i64 p] w fun e w'=>e=retS (aroundV h v c p)∧Below w.heap.size w w':=by
 obtain ⟨r,hr⟩:∃ r,aroundV h v c p=r:=⟨_,rfl⟩
 rw [hr]
 unfold aroundV at hr
 have VV:=zH hr.symm
 clear hr hp
 have FR:=zH (Far.refl w)
 obtain ⟨w1,hw_w1,BA,k_w1⟩:=nB w (sN h v c) 23
 replace FR:=zH (FR.out.fut k_w1)
 clear k_w1
 obtain ⟨w2,hw_w2,BR,k_w2⟩:=nB w1 (sN 0 0 0) 23
 replace FR:=zH (FR.out.fut k_w2)
 replace BA:=zH (BA.out.fut k_w2)
 clear k_w2
 have l1:w.heap.size < w1.heap.size:=by rw [← hw_w1];simp
 have l2:w1.heap.size < w2.heap.size:=by rw [← hw_w2];simp
 by_cases c1:p < 0
 ·have t1:decide (p < 0)=true:=decide_eq_true c1
  have R:=zH (show r=noS 2 by rw [VV.out,if_pos (.inl c1)])
  clear c1 VV hb
  go_enter Tryz.func108,Tryz.ntmps108
  go_wp2_with (first
   | (refine sB 23 (.tmp 4) (.tmp 13) w1.heap.size (sN 0 0 0) BR.out ?_;intro w7 BR7 g7))
  refine rC BR7 Tryz.underlying23 ?_;exact ⟨by rw [R.out];rfl,(FR.out.away g7 (by omega)).out⟩
 have t1:decide (p < 0)=false:=decide_eq_false c1
 have p1:0≤p:=by omega
 clear c1
 by_cases c1:4 < p
 ·have t2:decide (4 < p)=true:=decide_eq_true c1
  have R:=zH (show r=noS 2 by rw [VV.out,if_pos (.inr c1)])
  clear c1 VV hb
  go_enter Tryz.func108,Tryz.ntmps108
  go_wp2_with (first
   | (refine sB 23 (.tmp 4) (.tmp 13) w1.heap.size (sN 0 0 0) BR.out ?_;intro w7 BR7 g7))
  refine rC BR7 Tryz.underlying23 ?_;exact ⟨by rw [R.out];rfl,(FR.out.away g7 (by omega)).out⟩
 have t2:decide (4 < p)=false:=decide_eq_false c1
 have p2:p≤4:=by omega
 clear c1
 have R1:=zH (fun w=>shapeRight_any (h+2*p) c (v+2*p) w (by rw [inK_i64];omega) (by rw [inK_i64];omega) (by rw [inK_i64];omega))
 have e1:IntKind.i64.wrap (2*p)=2*p:=IntWalk.i64_in _ (by omega)
 have e2:IntKind.i64.wrap (h+2*p)=h+2*p:=IntWalk.i64_in _ (by omega)
 have e3:IntKind.i64.wrap (v+2*p)=v+2*p:=IntWalk.i64_in _ (by omega)
 have m0:=(elems_range (h+2*p) (v+2*p) c).1
 have V2:=zH (show r=(if elems (h+2*p) (v+2*p) c=0 then noS 5 else ((h+2*p,v+2*p,c),0)) by rw [VV.out,if_neg (by omega)])
 obtain ⟨m,hm⟩:∃ m,elems (h+2*p) (v+2*p) c=m:=⟨_,rfl⟩
 rw [hm] at V2 R1 m0
 clear VV hm hb p1 p2
 have a0:=BA.out.cell 0
 have a1:=BA.out.cell 1
 have a2:=BA.out.cell 2
 obtain ⟨w3,hw_w3,BT,k_w3⟩:=nB w2 (sN 0 0 0) 23
 replace FR:=zH (FR.out.fut k_w3)
 replace BA:=zH (BA.out.fut k_w3)
 replace BR:=zH (BR.out.fut k_w3)
 clear k_w3
 by_cases c3:m=0
 ·have t3:decide (0 < m)=false:=by simp;omega
  have R:=zH (show r=noS 5 by rw [V2.out,if_pos c3])
  clear V2 c3 m0
  go_enter Tryz.func108,Tryz.ntmps108
  go_wp2_with (first
   | (refine wpList_store_all rfl 23 (.tmp 6) (.tmp 26) rfl w2.heap.size (sN (h+2*p) (v+2*p) c) rfl rfl _ _ BT.out rfl (by kernel_rfl) (by simp [Value.oneCell']) ?_;intro w6 BT6 g6;have BR6:=zH (BR.out.away g6 (by omega));have FR6:=zH (FR.out.away g6 (by omega)))
   | (refine lB 23 (.tmp 6) w2.heap.size BT6 Tryz.underlying23 ?_))
  clear hw_w1 hw_w2 hw_w3 a0 a1 a2
  refine (R1.out _).mono ?_
  rintro e w5 ⟨rfl,hb⟩
  have BT5:=zH (BT6.fut hb)
  replace BR6:=zH (BR6.out.fut hb)
  replace FR6:=zH (FR6.out.fut hb)
  clear hb
  go_wp2_with (first
   | (refine sB 23 (.tmp 4) (.tmp 30) w1.heap.size (sN 0 0 0) BR6.out ?_;intro w7 BR7 g7))
  refine rC BR7 Tryz.underlying23 ?_;exact ⟨by rw [R.out];rfl,(FR6.out.away g7 (by omega)).out⟩
 have t3:decide (0 < m)=true:=by simp;omega
 have R:=zH (show r=((h+2*p,v+2*p,c),0) by rw [V2.out,if_neg c3])
 clear V2 c3 m0
 go_enter Tryz.func108,Tryz.ntmps108
 go_wp2_with (first
  | (refine wpList_store_all rfl 23 (.tmp 6) (.tmp 26) rfl w2.heap.size (sN (h+2*p) (v+2*p) c) rfl rfl _ _ BT.out rfl (by kernel_rfl) (by simp [Value.oneCell']) ?_;intro w6 BT6 g6;have BR6:=zH (BR.out.away g6 (by omega));have FR6:=zH (FR.out.away g6 (by omega)))
  | (refine lB 23 (.tmp 6) w2.heap.size BT6 Tryz.underlying23 ?_))
 clear hw_w1 hw_w2 hw_w3 a0 a1 a2
 refine (R1.out _).mono ?_
 rintro e w5 ⟨rfl,hb⟩
 have BT5:=zH (BT6.fut hb)
 replace BR6:=zH (BR6.out.fut hb)
 replace FR6:=zH (FR6.out.fut hb)
 clear hb
 go_wp2_with (first
  | (refine lB 23 (.tmp 6) w2.heap.size BT5.out Tryz.underlying23 ?_)
  | (refine wpList_store_all rfl 23 (.tmp 4) (.tmp 31) rfl w1.heap.size (sN (h+2*p) (v+2*p) c) rfl rfl _ _ BR6.out rfl (by kernel_rfl) (by simp [Value.oneCell']) ?_;intro w7 BR7 g7))
 refine rC BR7 Tryz.underlying23 ?_;exact ⟨by rw [R.out];rfl,(FR6.out.away g7 (by omega)).out⟩
set_option maxHeartbeats 4000000
def takesV (d:Node):List Int:=if d.kind=6 then [d.a,d.b] else [d.a]
def secondV (d:Node):Int:=if d.kind=6 then d.b else d.a
def thereV (d:Node) (many:Int):Bool:=decide (0≤d.a∧d.a < many) && (decide (d.kind ≠ 6) || decide (0≤d.b∧d.b < many))
theorem takes_any (d:Node) (W:Option Addr) (nw cw:Nat) (B:Option Addr) (nb cb:Nat) (w:World) (ha:InK .i64 d.a) (hb:InK .i64 d.b) :
  Calls Tryz.prog 90 #[.agg (nN d.kind d.a d.b d.k d.s d.p d.out d.za d.zb W nw cw B nb cb d.qm d.qs d.qz d.rm d.rs d.rz d.lo d.hi)] w (RetSl (tInt .i64) w (takesV d)):=by
 have FR:=zH (Far.refl w)
 obtain ⟨w1,hw_w1,BN,k_w1⟩:=nB w (nN d.kind d.a d.b d.k d.s d.p d.out d.za d.zb W nw cw B nb cb d.qm d.qs d.qz d.rm d.rs d.rz d.lo d.hi) 70
 replace FR:=zH (FR.out.fut k_w1)
 clear k_w1
 have c0:=BN.out.cell 0
 have c1:=BN.out.cell 1
 have c2:=BN.out.cell 2
 have l1:w.heap.size≤w1.heap.size:=by rw [← hw_w1];simp
 have HA:=zH ha
 have HB:=zH hb
 clear ha hb
 unfold takesV
 by_cases k6:d.kind=6
 ·have t6:(d.kind == 6)=true:=by simpa using k6
  rw [if_pos k6]
  clear k6
  go_enter Tryz.func90,Tryz.ntmps90
  go_wp2_with fail
  go_ret
  refine ⟨some ⟨w1.heap.size,0,none⟩,2,2,rfl,Sl.lit [d.a,d.b] (heap_now _ _ _ rfl) rfl (by intro x hx;simp at hx;rcases hx with rfl|rfl;exact HA.out;exact HB.out) ⟨l1,by simp⟩ rfl rfl (by simp [maxLen]),FR.out.out.alloc l1 _⟩
 ·have t6:(d.kind == 6)=false:=by simpa using k6
  rw [if_neg k6]
  clear k6
  go_enter Tryz.func90,Tryz.ntmps90
  go_wp2_with fail
  go_ret
  refine ⟨some ⟨w1.heap.size,0,none⟩,1,1,rfl,Sl.lit [d.a] (heap_now _ _ _ rfl) rfl (by intro x hx;simp at hx;subst hx;exact HA.out) ⟨l1,by simp⟩ rfl rfl (by simp [maxLen]),FR.out.out.alloc l1 _⟩
theorem of_any (d:Node) (W:Option Addr) (nw cw:Nat) (B:Option Addr) (nb cb:Nat) (w:World) (ha:InK .i64 d.a) (hb:InK .i64 d.b) :
  Calls Tryz.prog 72 #[.agg (nN d.kind d.a d.b d.k d.s d.p d.out d.za d.zb W nw cw B nb cb d.qm d.qs d.qz d.rm d.rs d.rz d.lo d.hi)] w fun e w'=>e=.returned (.int .i64 (secondV d))∧Below w.heap.size w w':=by
 obtain ⟨r,hr⟩:∃ r,secondV d=r:=⟨_,rfl⟩
 rw [hr]
 have TK:=zH (fun w=>takes_any d W nw cw B nb cb w ha hb)
 have FR:=zH (Far.refl w)
 obtain ⟨w1,hw_w1,BN,k_w1⟩:=nB w (nN d.kind d.a d.b d.k d.s d.p d.out d.za d.zb W nw cw B nb cb d.qm d.qs d.qz d.rm d.rs d.rz d.lo d.hi) 70
 replace FR:=zH (FR.out.fut k_w1)
 clear k_w1
 unfold takesV at TK
 unfold secondV at hr
 by_cases k6:d.kind=6
 ·rw [if_pos k6] at TK hr
  have R:=zH hr
  clear k6 hr ha hb
  go_enter Tryz.func72,Tryz.ntmps72
  go_wp2_with (refine lB 70 (.tmp 1) w.heap.size BN.out Tryz.underlying70 ?_)
  refine (TK.out _).mono ?_
  rintro e w2 ⟨A,n,cap,rfl,hs,hb⟩
  obtain rfl:n=2:=hs.n_eq.symm
  obtain ⟨b,off,rfl,_,_,c1,_⟩:=hs.int_at 1 (by decide)
  rw [show [d.a,d.b].getD 1 0=d.b from rfl] at c1
  replace FR:=zH (FR.out.fut hb)
  clear hb
  clear hs hw_w1
  go_wp2_with fail
  go_ret
  exact ⟨by rw [← R.out];rfl,FR.out.out⟩
 ·rw [if_neg k6] at TK hr
  have R:=zH hr
  clear k6 hr ha hb
  go_enter Tryz.func72,Tryz.ntmps72
  go_wp2_with (refine lB 70 (.tmp 1) w.heap.size BN.out Tryz.underlying70 ?_)
  refine (TK.out _).mono ?_
  rintro e w2 ⟨A,n,cap,rfl,hs,hb⟩
  obtain rfl:n=1:=hs.n_eq.symm
  obtain ⟨b,off,rfl,_,_,c1,_⟩:=hs.int_at 0 (by decide)
  rw [show [d.a].getD 0 0=d.a from rfl,Nat.add_zero] at c1
  replace FR:=zH (FR.out.fut hb)
  clear hb
  clear hs hw_w1
  go_wp2_with fail
  go_ret
  exact ⟨by rw [← R.out];rfl,FR.out.out⟩
theorem there_any (d:Node) (W:Option Addr) (nw cw:Nat) (B:Option Addr) (nb cb:Nat) (many:Int) (w:World) (ha:InK .i64 d.a) (hb:InK .i64 d.b) :
  Calls Tryz.prog 70 #[.agg (nN d.kind d.a d.b d.k d.s d.p d.out d.za d.zb W nw cw B nb cb d.qm d.qs d.qz d.rm d.rs d.rz d.lo d.hi),.int .i64 many] w fun e w'=>e=.returned (.bool (thereV d many))∧Below w.heap.size w w':=by
 obtain ⟨r,hr⟩:∃ r,thereV d many=r:=⟨_,rfl⟩
 rw [hr]
 have TK:=zH (fun w=>takes_any d W nw cw B nb cb w ha hb)
 have FR:=zH (Far.refl w)
 obtain ⟨w1,hw_w1,BN,k_w1⟩:=nB w (nN d.kind d.a d.b d.k d.s d.p d.out d.za d.zb W nw cw B nb cb d.qm d.qs d.qz d.rm d.rs d.rz d.lo d.hi) 70
 replace FR:=zH (FR.out.fut k_w1)
 clear k_w1
 obtain ⟨l,hl⟩:∃ l,takesV d=l:=⟨_,rfl⟩
 rw [hl] at TK
 have R:=zH (show (r=true ↔ ∀ j,j < l.length → 0≤l.getD j 0∧l.getD j 0 < many)∧l.length≤2 by
  rw [← hr,← hl]
  unfold thereV takesV
  by_cases k6:d.kind=6
  ·rw [if_pos k6]
   refine ⟨?_,by simp⟩
   simp only [k6,Bool.and_eq_true,Bool.or_eq_true,decide_eq_true_eq,ne_eq,not_true_eq_false,false_or]
   constructor
   ·intro h j hj
    match j,hj with
    | 0,_=>exact h.1
    | 1,_=>exact h.2
   ·intro h;exact ⟨h 0 (by simp),h 1 (by simp)⟩
  ·rw [if_neg k6]
   refine ⟨?_,by simp⟩
   simp only [k6,Bool.and_eq_true,Bool.or_eq_true,decide_eq_true_eq,ne_eq,not_false_eq_true,true_or,and_true]
   constructor
   ·intro h j hj
    match j,hj with
    | 0,_=>exact h
   ·intro h;exact h 0 (by simp))
 clear hl hr ha hb
 go_enter Tryz.func70,Tryz.ntmps70
 go_wp2_with (refine lB 70 (.tmp 2) w.heap.size BN.out Tryz.underlying70 ?_)
 refine (TK.out _).mono ?_
 rintro e w2 ⟨A,n,cap,rfl,hs,hb⟩
 have hn:=hs.n_eq
 have HS:=zH hs
 have hn2:=R.out.2
 rw [hn] at hn2
 replace FR:=zH (FR.out.fut hb)
 clear hb
 have HN:=zH hn
 clear hs hw_w1 TK hn
 go_wp2_with fail
 go_loopw [10] (fun i wr=>∃ k:Nat,k≤n∧i=.int .i64 k∧Below w2.heap.size w2 wr∧∀ j,j < k → 0≤l.getD j 0∧l.getD j 0 < many) (fun i _=>n - (intOf i).toNat)
 case atStart=>exact ⟨0,Nat.zero_le _,rfl,Below.refl _ _,fun j hj=>absurd hj (Nat.not_lt_zero _)⟩
 case round =>
  obtain ⟨k,hk,rfl,hb,hq⟩:=hrel
  have HQ:=zH hq
  have HB:=zH hb
  clear hq hb
  by_cases hlt:k < n
  ·obtain ⟨b,off,rfl,_,_,c0,_⟩:=(HS.out.below HB.out (fun _ h=>h.2)).int_at k hlt
   have p1:(k:Int) < (n:Int):=by omega
   obtain ⟨x,hx⟩:∃ x,l.getD k 0=x:=⟨_,rfl⟩
   rw [hx] at c0
   have HX:=zH hx
   clear hx
   by_cases g:0≤x∧x < many
   ·have g1:decide (x < 0)=false:=by simp;omega
    have g2:decide (many≤x)=false:=by simp;omega
    have G:=zH g
    clear g
    go_wp2_with fail
    refine ⟨⟨k+1,by omega,by go_num,HB.out,fun j hj=>?_⟩,by simp [intOf];omega⟩
    by_cases hjk:j < k
    ·exact HQ.out j hjk
    ·obtain rfl:j=k:=by omega
     rw [HX.out];exact G.out
   ·have RF:r=false:=by
     cases hr:r with
     | false=>rfl
     | true =>
      have h:=R.out.1.1 hr k (by rw [HN.out];exact hlt)
      rw [HX.out] at h
      exact absurd h g
    have RF':=zH RF
    clear RF
    by_cases g1:x < 0
    ·have t1:decide (x < 0)=true:=decide_eq_true g1
     clear g g1
     go_wp2_with fail
     go_ret
     exact ⟨by rw [RF'.out];rfl,below_later HB.out FR.out.out⟩
    ·have t1:decide (x < 0)=false:=decide_eq_false g1
     have t2:decide (many≤x)=true:=by simp;omega
     clear g g1
     go_wp2_with fail
     go_ret
     exact ⟨by rw [RF'.out];rfl,below_later HB.out FR.out.out⟩
  ·obtain rfl:k=n:=by omega
   have RT:=zH (R.out.1.2 (by rw [HN.out];exact HQ.out))
   clear hlt hk
   go_wp2_with fail
   go_ret
   exact ⟨by rw [RT.out];rfl,below_later HB.out FR.out.out⟩
theorem second_any (d:Node) (W:Option Addr) (nw cw:Nat) (B:Option Addr) (nb cb:Nat) (w:World) :
  Calls Tryz.prog 42 #[.agg (nN d.kind d.a d.b d.k d.s d.p d.out d.za d.zb W nw cw B nb cb d.qm d.qs d.qz d.rm d.rs d.rz d.lo d.hi)] w fun e w'=>e=.returned (.int .i64 (secondV d))∧Below w.heap.size w w':=by
 obtain ⟨r,hr⟩:∃ r,secondV d=r:=⟨_,rfl⟩
 rw [hr]
 unfold secondV at hr
 have FR:=zH (Far.refl w)
 obtain ⟨w1,hw_w1,BN,k_w1⟩:=nB w (nN d.kind d.a d.b d.k d.s d.p d.out d.za d.zb W nw cw B nb cb d.qm d.qs d.qz d.rm d.rs d.rz d.lo d.hi) 70
 replace FR:=zH (FR.out.fut k_w1)
 clear k_w1
 have c0:=BN.out.cell 0
 have c1:=BN.out.cell 1
 have c2:=BN.out.cell 2
 by_cases k6:d.kind=6
 ·have t6:(d.kind == 6)=true:=by simpa using k6
  rw [if_pos k6] at hr
  have R:=zH hr
  clear k6 hr
  go_enter Tryz.func42,Tryz.ntmps42
  go_wp2_with fail
  go_ret
  exact ⟨by rw [← R.out];rfl,FR.out.out⟩
 ·have t6:(d.kind == 6)=false:=by simpa using k6
  rw [if_neg k6] at hr
  have R:=zH hr
  clear k6 hr
  go_enter Tryz.func42,Tryz.ntmps42
  go_wp2_with fail
  go_ret
  exact ⟨by rw [← R.out];rfl,FR.out.out⟩
theorem rthere_any (d:Node) (W:Option Addr) (nw cw:Nat) (B:Option Addr) (nb cb:Nat) (many:Int) (w:World) :
  Calls Tryz.prog 40 #[.agg (nN d.kind d.a d.b d.k d.s d.p d.out d.za d.zb W nw cw B nb cb d.qm d.qs d.qz d.rm d.rs d.rz d.lo d.hi),.int .i64 many] w fun e w'=>e=.returned (.bool (thereV d many))∧Below w.heap.size w w':=by
 obtain ⟨r,hr⟩:∃ r,thereV d many=r:=⟨_,rfl⟩
 rw [hr]
 unfold thereV at hr
 have FR:=zH (Far.refl w)
 obtain ⟨w1,hw_w1,BN,k_w1⟩:=nB w (nN d.kind d.a d.b d.k d.s d.p d.out d.za d.zb W nw cw B nb cb d.qm d.qs d.qz d.rm d.rs d.rz d.lo d.hi) 70
 replace FR:=zH (FR.out.fut k_w1)
 clear k_w1
 have c0:=BN.out.cell 0
 have c1:=BN.out.cell 1
 have c2:=BN.out.cell 2
 by_cases h1:0≤d.a
 rotate_left
 ·have t1:decide (0≤d.a)=false:=decide_eq_false h1
  have R:=zH (show r=false by rw [← hr];simp;omega)
  clear hr h1
  go_enter Tryz.func40,Tryz.ntmps40
  go_wp2_with fail
  go_ret
  exact ⟨by rw [R.out];rfl,FR.out.out⟩
 have t1:decide (0≤d.a)=true:=decide_eq_true h1
 by_cases h2:d.a < many
 rotate_left
 ·have t2:decide (d.a < many)=false:=decide_eq_false h2
  have R:=zH (show r=false by rw [← hr];simp;omega)
  clear hr h1 h2
  go_enter Tryz.func40,Tryz.ntmps40
  go_wp2_with fail
  go_ret
  exact ⟨by rw [R.out];rfl,FR.out.out⟩
 have t2:decide (d.a < many)=true:=decide_eq_true h2
 by_cases h3:d.kind=6
 rotate_left
 ·have t3:(d.kind != 6)=true:=by simpa using h3
  have R:=zH (show r=true by rw [← hr];simp [h3];omega)
  clear hr h1 h2 h3
  go_enter Tryz.func40,Tryz.ntmps40
  go_wp2_with fail
  go_ret
  exact ⟨by rw [R.out];rfl,FR.out.out⟩
 have t3:(d.kind != 6)=false:=by simpa using h3
 by_cases h4:0≤d.b
 rotate_left
 ·have t4:decide (0≤d.b)=false:=decide_eq_false h4
  have R:=zH (show r=false by rw [← hr];simp [h3];omega)
  clear hr h1 h2 h3 h4
  go_enter Tryz.func40,Tryz.ntmps40
  go_wp2_with fail
  go_ret
  exact ⟨by rw [R.out];rfl,FR.out.out⟩
 have t4:decide (0≤d.b)=true:=decide_eq_true h4
 by_cases h5:d.b < many
 ·have t5:decide (d.b < many)=true:=decide_eq_true h5
  have R:=zH (show r=true by rw [← hr];simp [h3];omega)
  clear hr h1 h2 h3 h4 h5
  go_enter Tryz.func40,Tryz.ntmps40
  go_wp2_with fail
  go_ret
  exact ⟨by rw [R.out];rfl,FR.out.out⟩
 ·have t5:decide (d.b < many)=false:=decide_eq_false h5
  have R:=zH (show r=false by rw [← hr];simp [h3];omega)
  clear hr h1 h2 h3 h4 h5
  go_enter Tryz.func40,Tryz.ntmps40
  go_wp2_with fail
  go_ret
  exact ⟨by rw [R.out];rfl,FR.out.out⟩
end Go.Proofs.YthjmghjfklkmbaaGreat
namespace Go.Proofs.YthjmghjfklkmbaaGreat
open Go
theorem wp_scope_fore {P:Program} {a:Act} {w:World} {Q:Exit → Act → World → Prop} {c rest:Code} (l:Nat) (hf:findLabel c l=some rest)
  (first:c.wp P (Exit.jump l (fun a' w'=>rest.wp P (Exit.noGoto Q) a' w') Q) a w):(Code.scope c).wp P Q a w:=by
 refine wp_scope_jumps l _ (fun _ _=>0) hf first fun a' w' h=>?_
 intro b k cs
 obtain ⟨e,a₁,w₁,hq,harr⟩:=h b k cs
 refine ⟨e,a₁,w₁,?_,harr⟩
 cases e with
 | goto l'=>exact hq.elim
 | normal=>exact hq
 | exit id=>exact hq
 | ret=>exact hq
 | panic ch=>exact hq
 | outgrown=>exact hq
end Go.Proofs.YthjmghjfklkmbaaGreat
namespace Go.Proofs.YthjmghjfklkmbaaGreat
open Go.RowKit Go.ChangeShapes Go.WideShapes
set_option maxRecDepth 100000
set_option maxHeartbeats 2000000
def sizeR (m:Nat) (s:Nat):Nat:=m / 2 ^ s+if s=0 then 0 else m / 2 ^ (s - 1) % 2
def roundV (v s:Int):Int:=if s < 0 ∨ 62 < s then 0 else if v < 0 then -(sizeR v.natAbs s.toNat:Int) else (sizeR v.natAbs s.toNat:Int)
theorem sizeR_le (m s:Nat):sizeR m s≤m:=by
 unfold sizeR
 split
 ·rename_i h;subst h;simp
 ·rename_i h
  obtain ⟨k,rfl⟩:∃ k,s=k+1:=⟨s - 1,by omega⟩
  rw [Nat.add_sub_cancel,Nat.pow_succ,← Nat.div_div_eq_div_mul]
  have:=Nat.div_le_self m (2 ^ k)
  omega
theorem and_half (m k:Nat) (hm:m < 18446744073709551616) (hk:k < 63):bits .and .u64 (m:Int) ((2 ^ k:Nat):Int) / ((2:Int) ^ k)=((m / 2 ^ k % 2:Nat):Int):=by
 have hp:2 ^ k < 18446744073709551616:=Nat.lt_of_lt_of_le (Nat.pow_lt_pow_right (by decide) hk) (by decide)
 rw [bits_and_u64_nat m (2 ^ k) hm hp]
 have:m &&& 2 ^ k=m / 2 ^ k % 2*2 ^ k:=by
  have e:=and_bit_var 64 m (k:Int) (by omega)
  rw [Int.toNat_natCast,Nat.min_eq_left (by omega),if_neg (by omega)] at e
  have e2:((2:Int) ^ k % 2 ^ 64).toNat=2 ^ k:=by
   have e3:((2:Int) ^ k)=((2 ^ k:Nat):Int):=by simp
   rw [e3]
   generalize 2 ^ k=p at *
   omega
  rw [e2] at e
  exact e
 rw [this,show ((2:Int) ^ k)=((2 ^ k:Nat):Int) by simp,← Int.natCast_ediv,Nat.mul_div_cancel _ (Nat.two_pow_pos k)]
theorem size_eq (m k:Nat) (hm:m≤9223372036854775808) (hk:k < 63):IntKind.u64.wrap ((m:Int) / 2 ^ (k+1)+bits BinOp.and IntKind.u64 (m:Int) (IntKind.u64.wrap (2 ^ k)) / 2 ^ k)=(sizeR m (k+1):Int):=by
 have hp:2 ^ k < 18446744073709551616:=Nat.lt_of_lt_of_le (Nat.pow_lt_pow_right (by decide) hk) (by decide)
 have e0:IntKind.u64.wrap (2 ^ k)=((2 ^ k:Nat):Int):=by
  rw [show ((2:Int) ^ k)=((2 ^ k:Nat):Int) by simp,IntKind.wrap_u64]
  generalize 2 ^ k=p at *
  omega
 rw [e0,and_half m k (by omega) hk,show ((2:Int) ^ (k+1))=((2 ^ (k+1):Nat):Int) by simp,← Int.natCast_ediv,← Int.natCast_add]
 have e1:m / 2 ^ (k+1)+m / 2 ^ k % 2=sizeR m (k+1):=by unfold sizeR;rw [if_neg (by omega),Nat.add_sub_cancel]
 have:=sizeR_le m (k+1)
 rw [e1,IntKind.wrap_u64]
 omega
theorem round_any (v s:Int) (w:World) (hv:InK .i64 v):Calls Tryz.prog 127 #[.int .i64 v,.int .i64 s] w fun e w'=>e=.returned (.int .i64 (roundV v s))∧Below w.heap.size w w':=by
 rw [inK_i64] at hv
 obtain ⟨hv1,hv2⟩:=hv
 unfold roundV
 by_cases a1:s < 0
 ·rw [if_pos (.inl a1)]
  go_enter Tryz.func127,Tryz.ntmps127
  go_wp2_with fail
  go_step3
  go_wp2_with fail
  rw [Exit.noGoto_ret]
  go_ret
  exact ⟨rfl,Below.refl _ _⟩
 ·by_cases a2:62 < s
  ·rw [if_pos (.inr a2)]
   go_enter Tryz.func127,Tryz.ntmps127
   go_wp2_with fail
   go_step3
   go_wp2_with fail
   rw [Exit.noGoto_ret]
   go_ret
   exact ⟨rfl,Below.refl _ _⟩
  ·rw [if_neg (by omega)]
   obtain ⟨n,rfl⟩:∃ n:Nat,s=n:=⟨s.toNat,by omega⟩
   rw [Int.toNat_natCast]
   have hs62:n≤62:=by omega
   clear a1 a2
   by_cases b1:v < 0
   ·rw [if_pos b1]
    obtain ⟨m,rfl⟩:∃ m:Nat,v=-(m:Int):=⟨v.natAbs,by omega⟩
    rw [show (-(m:Int)).natAbs=m by omega]
    have b2:¬ m=0:=by omega
    have hm:m≤9223372036854775808:=by omega
    obtain ⟨x,hx⟩:∃ x:Int,18446744073709551616 - (m:Int)=x:=⟨_,rfl⟩
    have u1:IntKind.u64.wrap (-(m:Int))=x:=by rw [IntKind.wrap_u64];omega
    have u2:IntKind.u64.wrap (-x)=(m:Int):=by rw [IntKind.wrap_u64];omega
    have u5:wrap64 x=-(m:Int):=by rw [← hx];unfold wrap64;omega
    obtain ⟨r,hr⟩:∃ r,sizeR m n=r:=⟨_,rfl⟩
    have hrm:r≤m:=by rw [← hr];exact sizeR_le m n
    obtain ⟨y,hy⟩:∃ y:Int,(-(r:Int)) % 18446744073709551616=y:=⟨_,rfl⟩
    have u3:IntKind.u64.wrap (-(r:Int))=y:=by rw [IntKind.wrap_u64,hy]
    have u4:IntKind.i64.wrap y=-(r:Int):=by rw [IntKind.wrap_i64,← hy];omega
    rw [hr]
    have b3:¬ (0:Int)≤-(m:Int):=by omega
    by_cases c1:n=0
    ·subst c1
     obtain rfl:m=r:=by rw [← hr];simp [sizeR]
     clear hx hy hr
     go_enter Tryz.func127,Tryz.ntmps127
     go_wp2_with fail
     go_step3
     go_wp2_with fail
     go_step3
     go_wp2_with fail
     rw [Exit.noGoto_ret]
     go_ret
     exact ⟨by show Ending.returned (.int .i64 (wrap64 x))=_;rw [u5],Below.refl _ _⟩
    ·obtain ⟨k,rfl⟩:∃ k,n=k+1:=⟨n - 1,by omega⟩
     have HR:=zH (size_eq m k hm (by omega))
     rw [hr] at HR
     clear hx hy hr
     go_enter Tryz.func127,Tryz.ntmps127
     go_wp2_with fail
     go_step3
     go_wp2_with fail
     go_step3
     go_wp2_with fail
     go_quiet (fail)
     rw [HR.out]
     go_wp2_with fail
     rw [Exit.noGoto_ret]
     go_ret
     exact ⟨rfl,below_drewN (Below.refl _ _) _⟩
   ·rw [if_neg b1]
    obtain ⟨m,rfl⟩:∃ m:Nat,v=(m:Int):=⟨v.natAbs,by omega⟩
    rw [show ((m:Int)).natAbs=m by omega]
    obtain ⟨r,hr⟩:∃ r,sizeR m n=r:=⟨_,rfl⟩
    have hrm:r≤m:=by rw [← hr];exact sizeR_le m n
    rw [hr]
    by_cases c1:n=0
    ·subst c1
     obtain rfl:m=r:=by rw [← hr];simp [sizeR]
     clear hr
     go_enter Tryz.func127,Tryz.ntmps127
     go_wp2_with fail
     refine wp_scope_fore 0 rfl ?_
     go_wp2_with fail
     go_step3
     refine ⟨rfl,?_⟩
     go_wp2_with fail
     rw [Exit.noGoto_ret]
     go_ret
     exact ⟨rfl,Below.refl _ _⟩
    ·obtain ⟨k,rfl⟩:∃ k,n=k+1:=⟨n - 1,by omega⟩
     have HR:=zH (size_eq m k (by omega) (by omega))
     rw [hr] at HR
     clear hr
     go_enter Tryz.func127,Tryz.ntmps127
     go_wp2_with fail
     refine wp_scope_fore 0 rfl ?_
     go_wp2_with fail
     go_step3
     refine ⟨rfl,?_⟩
     go_wp2_with fail
     go_quiet (fail)
     rw [HR.out]
     go_wp2_with fail
     rw [Exit.noGoto_ret]
     go_ret
     exact ⟨rfl,below_drewN (Below.refl _ _) _⟩
def flatN:Node:=⟨9,0,0,0,0,0,0,0,0,[],[],0,0,0,0,0,0,0,0⟩
theorem flatN_rep (w:World) (S:Nat → Prop):tNode.rep w S [.int .i64 9,.int .i64 0,.int .i64 0,.int .i64 0,.int .i64 0,.int .i64 0,.int .i64 0,.int .i8 0,.int .i8 0,.slice none 0 0,.slice none 0 0,.int .i32 0,.int .i64 0,.int .i8 0,.int .i32 0,.int .i64 0,.int .i8 0,.int .i8 0,.int .i8 0] flatN :=
 ⟨(9,0,0,0,0,0,0,0,0,[],[],(0,0,0),(0,0,0),0,0),rfl,
  _,_,rfl,⟨rfl,by decide⟩,_,_,rfl,⟨rfl,by decide⟩,_,_,rfl,⟨rfl,by decide⟩,_,_,rfl,⟨rfl,by decide⟩,_,_,rfl,⟨rfl,by decide⟩,_,_,rfl,⟨rfl,by decide⟩,_,_,rfl,⟨rfl,by decide⟩,_,_,rfl,⟨rfl,by decide⟩,_,_,rfl,⟨rfl,by decide⟩,
  _,_,rfl,(Sl.nil _ _ _).rep,_,_,rfl,(Sl.nil _ _ _).rep,_,_,rfl,⟨_,_,rfl,⟨rfl,by decide⟩,_,_,rfl,⟨rfl,by decide⟩,rfl,by decide⟩,_,_,rfl,⟨_,_,rfl,⟨rfl,by decide⟩,_,_,rfl,⟨rfl,by decide⟩,rfl,by decide⟩,_,_,rfl,⟨rfl,by decide⟩,rfl,by decide⟩
theorem same05_eq (t:Tensor) (A B:Option Addr) (n c m d:Nat) (w:World) (h:Sl (tInt .i8) w (blo w.heap.size) A n c t.data) (h':Sl (tInt .i8) w (blo w.heap.size) B m d t.data) :
  Calls Tryz.prog 28 #[.agg (tN t.h t.v t.c A n c),.agg (tN t.h t.v t.c B m d)] w fun e w'=>e=.returned (.bool true)∧Below w.heap.size w w':=by
 have hm:n≤9223372036854775807:=Nat.le_trans h.cap_le h.max_le
 have hnm:m=n:=h'.n_eq.symm.trans h.n_eq
 subst hnm
 have H:=zH h
 have H':=zH h'
 clear h h'
 obtain ⟨W2,hW2⟩:∃ W2,(w.alloc (.cells (tN t.h t.v t.c A m c) 29)).alloc (.cells (tN t.h t.v t.c B m d) 29)=W2:=⟨_,rfl⟩
 have g2:Below w.heap.size w W2:=by rw [← hW2];exact ((Below.refl _ _).alloc (Nat.le_refl _) _).alloc (by simp) _
 have BA:=zH (show Blk W2 w.heap.size 29 (tN t.h t.v t.c A m c) by rw [← hW2];exact (Blk.now _ _ _ _ rfl).past _)
 have BB:=zH (show Blk W2 (w.heap.size+1) 29 (tN t.h t.v t.c B m d) by rw [← hW2];exact Blk.now _ _ _ _ (by simp))
 have HW:=zH hW2
 clear hW2
 go_enter Tryz.func28,Tryz.ntmps28
 go_wp2_with fail
 rw [HW.out]
 clear HW
 have G2:=zH g2
 clear g2
 go_loopw [5] (fun i wr=>∃ k:Nat,k≤m∧i=.int .i64 k∧Below W2.heap.size W2 wr) (fun i _=>m - (intOf i).toNat)
 case atStart=>exact ⟨0,Nat.zero_le _,rfl,Below.refl _ _⟩
 case round =>
  obtain ⟨k,hk,rfl,hb⟩:=hrel
  have HB:=zH hb
  have bA:=BA.out.later hb
  have bB:=BB.out.later hb
  have a3:wr.cell? ⟨w.heap.size,3,none⟩=some (.slice A m c):=bA.cell 3
  have b3:wr.cell? ⟨w.heap.size+1,3,none⟩=some (.slice B m d):=bB.cell 3
  have g3:=below_call G2.out hb G2.out.size
  have G3:=zH g3
  by_cases hlt:k < m
  ·have t1:decide ((k:Int) < (m:Int))=true:=by simp;omega
   obtain ⟨b1,o1,rfl,_,_,c1,_⟩:=(H.out.later g3 (Nat.le_refl _)).int_at k hlt
   obtain ⟨b2,o2,rfl,_,_,c2,_⟩:=(H'.out.later g3 (Nat.le_refl _)).int_at k hlt
   generalize t.data.getD k 0=y at *
   have ty:(y != y)=false:=by simp
   have p0:(0:Int)≤(k:Int):=by omega
   have p1:(k:Int) < (m:Int):=by omega
   clear hb bA bB g3 hlt
   go_wp2_with fail
   go_quiet (fail)
   have hq:Below W2.heap.size W2 (wr.drewN nq):=below_drewN HB.out nq
   generalize wr.drewN nq=wq at *
   go_wp2_with fail
   exact ⟨⟨k+1,by omega,by go_num,hq⟩,by simp [intOf];omega⟩
  ·obtain rfl:k=m:=by omega
   have t1:decide ((k:Int) < (k:Int))=false:=by simp
   clear hb bA bB g3 hlt
   go_wp2_with fail
   go_ret
   exact ⟨rfl,G3.out⟩
end Go.Proofs.YthjmghjfklkmbaaGreat
