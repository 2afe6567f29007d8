/-
  Sums (layers 16, 17, 10): lane.Of, depth.Of, the document's, whatever the tensor.
  Sums by kind (layer 26): the document's Sum.
  A load of a part of a block, inside a region that draws its order and is walked once (quiet).
  '!=' of two structs in a region that only reads; a literal slice of several structs (laws for the operations).
  Two tensors joined (layer 20): the document's Of, the first tensor right.
  The numbers of two lists, pair by pair (layer 20: join.pairs).
  A region that draws its order, in the body of a loop over a function: by the laws for such a region anywhere.
  Room around a tensor (layer 9): pad.may, the document's May, Pixel, of a tensor that is right.
  Room around a tensor (layer 9): the document's Move, by the same number of rows and columns.
  Room around a tensor (layer 9): the document's Resize, of a tensor that is right.
  Room around a tensor (layer 9): the function of pad.resized.
-/
import Derived.StillTailTactics
import Derived.Test.YtlbkekabmpienaaGreatJ20
import Derived.Test.YtlbkekabmpienaaGreatJ21
import Derived.Test.YtlbkekabmpienaaGreatJ00
import Derived.Test.YtlbkekabmpienaaGreatJ17
import Derived.Test.YtlbkekabmpienaaGreatJ11
import Derived.Test.YtlbkekabmpienaaGreatJ06
import Derived.Test.YtlbkekabmpienaaGreatJ19
import Derived.BigQuiet
import Derived.Test.YtlbkekabmpienaaGreatJ28
import Derived.RangeFuncNested
import Derived.RangeFuncBound
import Derived.RangeFuncCalls
import Derived.RangeFuncLeaves
import Derived.WalkKit
import Derived.OwnWalkIn
import Derived.TacticsInMore
import Derived.LoopNIn
import Derived.LoopIn
import Derived.Deep.DeepCutAuto
import Derived.Deep.CutRange
import Derived.Deep.CutBlock
import Derived.Test.YtlbkekabmpienaaGreatJ25
import Derived.Test.YtlbkekabmpienaaGreatJ27
namespace Go.Proofs.YtlbkekabmpienaaGreat
set_option linter.unusedVariables false
set_option linter.unusedSimpArgs false
open Go.RowKit Go.ChangeShapes Go.WideShapes
set_option maxRecDepth 100000
theorem laneOf_any (t:Tensor) (A:Option Addr) (n cap:Nat) (d:Node) (W:Option Addr) (nw cw:Nat) (B:Option Addr) (nb cb:Nat) (w:World) (ht:TensorIn t) (hd:NodeIn d)
  (ha:Sl (tInt .i8) w (blo w.heap.size) A n cap t.data) (hw:Sl (tInt .i8) w (blo w.heap.size) W nw cw d.w) (hb:Sl (tInt .i32) w (blo w.heap.size) B nb cb d.bias) (mw:nw≤2000∧nb≤200) (hk3:d.k=3) (hs1:d.s=1) :
  Calls Tryz.prog 33 #[.agg #[.int .i64 t.h,.int .i64 t.v,.int .i64 t.c,.slice A n cap],.agg #[.int .i64 d.kind,.int .i64 d.a,.int .i64 d.b,.int .i64 d.k,.int .i64 d.s,.int .i64 d.p,.int .i64 d.out,.int .i8 d.za,.int .i8 d.zb,.slice W nw cw,.slice B nb cb,.int .i32 d.qm,.int .i64 d.qs,.int .i8 d.qz,.int .i32 d.rm,.int .i64 d.rs,.int .i8 d.rz,.int .i8 d.lo,.int .i8 d.hi]] w (RetT .i32 (convOf t d).1 (convOf t d).2 w):=by
 by_cases c1:t.ok=true
 ·by_cases c2:(convV t.h t.v t.c d).2=0
  ·exact laneOf_good t A n cap d W nw cw B nb cb w ht hd ha hw hb mw c1 c2 hk3 hs1
  ·have e:convOf t d=(noTensor,(convV t.h t.v t.c d).2):=by unfold convOf;rw [if_pos c1,if_neg c2]
   rw [e];exact laneOf_code t A n cap d W nw cw B nb cb w ht hd ha hw hb (by omega) c1 c2
 ·have e:convOf t d=(noTensor,5):=by unfold convOf;rw [if_neg c1]
  rw [e];exact laneOf_bad t A n cap d W nw cw B nb cb w ht hd ha hw hb c1
theorem depthOf_any (t:Tensor) (A:Option Addr) (n cap:Nat) (d:Node) (W:Option Addr) (nw cw:Nat) (B:Option Addr) (nb cb:Nat) (w:World) (ht:TensorIn t) (hd:NodeIn d)
  (ha:Sl (tInt .i8) w (blo w.heap.size) A n cap t.data) (hw:Sl (tInt .i8) w (blo w.heap.size) W nw cw d.w) (hb:Sl (tInt .i32) w (blo w.heap.size) B nb cb d.bias) (mw:nw≤2000∧nb≤200) :
  Calls Tryz.prog 35 #[.agg #[.int .i64 t.h,.int .i64 t.v,.int .i64 t.c,.slice A n cap],.agg #[.int .i64 d.kind,.int .i64 d.a,.int .i64 d.b,.int .i64 d.k,.int .i64 d.s,.int .i64 d.p,.int .i64 d.out,.int .i8 d.za,.int .i8 d.zb,.slice W nw cw,.slice B nb cb,.int .i32 d.qm,.int .i64 d.qs,.int .i8 d.qz,.int .i32 d.rm,.int .i64 d.rs,.int .i8 d.rz,.int .i8 d.lo,.int .i8 d.hi]] w (RetT .i32 (depthOf t d).1 (depthOf t d).2 w):=by
 by_cases c1:t.ok=true
 ·by_cases c2:(depthV t.h t.v t.c d).2=0
  ·exact depthOf_good t A n cap d W nw cw B nb cb w ht hd ha hw hb mw c1 c2
  ·have e:depthOf t d=(noTensor,(depthV t.h t.v t.c d).2):=by unfold depthOf;rw [if_pos c1,if_neg c2]
   rw [e];exact depthOf_code t A n cap d W nw cw B nb cb w ht hd ha hw hb (by omega) c1 c2
 ·have e:depthOf t d=(noTensor,5):=by unfold depthOf;rw [if_neg c1]
  rw [e];exact depthOf_bad t A n cap d W nw cw B nb cb w ht hd ha hw hb c1
end Go.Proofs.YtlbkekabmpienaaGreat
namespace Go.Proofs.YtlbkekabmpienaaGreat
set_option linter.unusedVariables false
set_option linter.unusedSimpArgs false
open Go.RowKit Go.ChangeShapes Go.WideShapes
set_option maxRecDepth 100000
set_option maxHeartbeats 4000000
/-- The sums that a node makes of a tensor. -/
def sumOf (t:Tensor) (d:Node):Tensor × Int:=if d.kind=1 then convOf t d else if d.kind=2 then depthOf t d else if d.kind=3 then denseOf t d else (noTensor,6)
end Go.Proofs.YtlbkekabmpienaaGreat
set_option linter.unusedVariables false
set_option linter.unusedSimpArgs false
namespace Go.Proofs.YtlbkekabmpienaaGreat
open Go Go.RowKit
theorem range_blk {w:World} {g off:Nat} {e:TypeId} {cs:Array Value} {vs:List Value} (hb:Blk w g e cs) (hvs:(cs.toList.drop off).take vs.length=vs):w.rangeAt g off vs:=by
 intro j v hv
 rw [hb.cell]
 rw [← hvs,List.getElem?_take] at hv
 split at hv
 ·rw [List.getElem?_drop] at hv
  simpa using hv
 ·cases hv
end Go.Proofs.YtlbkekabmpienaaGreat
namespace Go.Proofs.YtlbkekabmpienaaGreat
set_option linter.unusedVariables false
set_option linter.unusedSimpArgs false
open Go Go.RowKit
theorem wpList_load_midw {P:Program} {ops:Array Oper} {rest:List Oper} {o:Oper} {a:Act} {w:World} {Q:Exit → Act → World → Prop} (hw:Region.wanted o (yielded ops a.tmps)=true) (ty:TypeId) (x:Operand) (ho:o.op=.load ty x)
  (b off:Nat) (hx:a.eval x=.pointer (some ⟨b,off,none⟩)) (cs:List Value) (d:TypeDesc) (hC:w.rangeAt b off cs)
  (hu:P.underlying ty=some d) (hd:d.isRow=true) (hi:(P.info? ty).map (·.size)=some cs.length) (h:wpList P ops Q rest (a.put o.dst (.agg cs.toArray)) w):wpList P ops Q (o :: rest) a w:=by
 refine BigFrame.wpList_want hw fun K hK=>?_
 unfold Oper.wp execOp
 simp only [ho,hx,Instr.loadAt,Instr.sureAddr,Sem.run_bind,Sem.run_pure,Result.andThen_ok,run_loadVar_mid w b off ty cs d hC hu hd hi]
 exact hK _ _ h
section
variable {P:Program} {ops:Array Oper} {rest:List Oper} {o:Oper} {a:Act} {w:World} {Q:Exit → Act → World → Prop} {T E:TypeId} {z:Value} {size bytes:Nat}
end
end Go.Proofs.YtlbkekabmpienaaGreat
namespace Go.Proofs.YtlbkekabmpienaaGreat
set_option linter.unusedVariables false
set_option linter.unusedSimpArgs false
open Go.RowKit Go.ChangeShapes Go.WideShapes Fx
set_option maxRecDepth 100000
set_option maxHeartbeats 8000000
/-- Two tensors joined, the first one right. -/
def joinQ (a b:Tensor) (d:Node):Tensor × Int:=if b.ok=false then (noTensor,5) else if ([a.h,a.v,a.c] == [b.h,b.v,b.c])=false then (noTensor,5) else if quantOk d.qm d.qs=false then (noTensor,7) else if quantOk d.rm d.rs=false then (noTensor,7)
 else (⟨a.h,a.v,a.c,(List.range a.data.length).map fun i=>joinV d (a.data.getD i 0) (b.data.getD i 0)⟩,0)
end Go.Proofs.YtlbkekabmpienaaGreat
namespace Go.Proofs.YtlbkekabmpienaaGreat
set_option linter.unusedVariables false
set_option linter.unusedSimpArgs false
open Go.RowKit Go.ChangeShapes Go.WideShapes Fx
set_option maxRecDepth 100000
set_option maxHeartbeats 4000000
def e88 (x:I8 × I8):Array Value:=#[Value.int .i8 x.1.1,Value.int .i8 x.2.1]
def pairX (l l':List Int) (hl:∀ i,InK .i8 (l.getD i 0)) (hl':∀ i,InK .i8 (l'.getD i 0)) (i:Nat):I8 × I8:=(⟨l.getD i 0,hl i⟩,⟨l'.getD i 0,hl' i⟩)
/-- Some blocks lie as they lay. -/
structure KeepS (S:Nat → Prop) (W W':World):Prop where
 size:W.heap.size≤W'.heap.size
 same:∀ k,S k → W'.heap[k]?=W.heap[k]?
theorem KeepS.refl (S:Nat → Prop) (W:World):KeepS S W W:=⟨Nat.le_refl _,fun _ _=>rfl⟩
theorem KeepS.trans {S:Nat → Prop} {A B C:World} (h:KeepS S A B) (k:KeepS S B C):KeepS S A C:=⟨Nat.le_trans h.size k.size,fun i hi=>(k.same i hi).trans (h.same i hi)⟩
theorem KeepS.put {S:Nat → Prop} {m:Nat} (hS:∀ k,S k → k < m) (W:World) (l:Nat) (o o':Obj) (hl:m≤l) (h:W.heap[l]?=some o) (h1:o.isCells=false) (h2:o.isWalk=false):KeepS S W (W.putObj l o') :=
 ⟨(grownBy_putObj' W l o').size,fun k hk=>World.putObj_heap_other (fun e=>by have:=hS k hk;omega)⟩
theorem Blk.keepS {w w':World} {S:Nat → Prop} {g:Nat} {e:TypeId} {cs:Array Value} (h:Blk w g e cs) (hk:KeepS S w w') (hg:S g):Blk w' g e cs:=⟨(hk.same g hg).trans h.heap⟩
theorem pairs1_stops (S:Nat → Prop) (A A':Option Addr) (n cap cap':Nat) (l l':List Int) (bA bB m:Nat) (w:World)
  (hl:Sl (tInt .i8) w S A n cap l) (hl':Sl (tInt .i8) w S A' n cap' l') (hn2:n≤1024)
  (BA:Blk w bA 23 #[.slice A n cap]) (BB:Blk w bB 23 #[.slice A' n cap']) (hb:S bA∧S bB) (hS:∀ k,S k → k < w.heap.size) (hm:1≤m) :
  SeqStopsK Fence.wide m Tryz.prog 98 #[.pointer (some ⟨bA,0,none⟩),.pointer (some ⟨bB,0,none⟩)] e88 (KeepS S) (fun ys=>ys=(List.range n).map (pairX l l' hl.allK hl'.allK)) (fun _=>True) n w:=by
 intro lo J Jx W0 hW hJ hJx hY h0
 obtain ⟨XF,hXF⟩:∃ f,pairX l l' hl.allK hl'.allK=f:=⟨_,rfl⟩
 have X1:∀ i,(XF i).1.1=l.getD i 0∧(XF i).2.1=l'.getD i 0:=fun i=>by rw [← hXF];exact ⟨rfl,rfl⟩
 rw [hXF]
 have hWb:KeepS S w W0:=⟨hW.size,fun k hk=>hW.block k (hS k hk)⟩
 have HL:=zH (hl.keep fun b h=>hWb.same b h)
 have HL':=zH (hl'.keep fun b h=>hWb.same b h)
 have GB:=zH hb
 have BA:=zH (BA.keepS hWb hb.1)
 have BB:=zH (BB.keepS hWb hb.2)
 have HX:=zH X1
 have HY:=zH hY
 have mx:n≤9223372036854775807:=by omega
 have a0:=BA.out.cell 0
 clear hl hl' hXF hW hWb hJ hJx hY hb hS X1
 rw [callsIn_wide]
 simp only [List.append_toArray,List.cons_append,List.nil_append]
 go_enter Tryz.func98,Tryz.ntmps98
 go_wp2_with fail
 clear a0
 go_loopw [8] (fun ii wr=>∃ k:Nat,k≤n∧ii=.int .i64 k∧J ((List.range k).map XF) wr∧KeepS S W0 wr) (fun ii _=>n - (intOf ii).toNat)
 case atStart=>exact ⟨0,Nat.zero_le _,rfl,h0,KeepS.refl _ _⟩
 case round =>
  obtain ⟨k,hk,rfl,hj,hbw⟩:=hrel
  have BB:=zH (BB.out.keepS hbw GB.out.2)
  have HL:=zH (HL.out.keep fun b h=>hbw.same b h)
  have HL':=zH (HL'.out.keep fun b h=>hbw.same b h)
  have HJS:=zH hj
  have HB:=zH hbw
  clear hj hbw
  by_cases hlt:k < n
  ·have p1':(k:Int) < (n:Int):=by omega
   obtain ⟨b,o,rfl,-,-,cx,-⟩:=HL.out.int_at k hlt
   obtain ⟨b',o',rfl,-,-,cy,-⟩:=HL'.out.int_at k hlt
   obtain ⟨v8,hv8⟩:∃ v:I8 × I8,XF k=v:=⟨_,rfl⟩
   have hx:=HX.out k
   rw [hv8] at hx
   rw [← hx.1] at cx
   rw [← hx.2] at cy
   have b0:=BB.out.cell 0
   simp only [List.getElem?_toArray,List.getElem?_cons_zero] at b0
   have j8:∀ W,J ((List.range k).map XF ++ [v8]) W → J ((List.range (k+1)).map XF) W:=fun W h=>by
    rw [List.range_succ,List.map_append]
    show J (_ ++ [XF k]) W
    rw [hv8];exact h
   have J8:=zH j8
   obtain ⟨fn,tmps,assign,body,hy,hR⟩:=HY.out ((List.range k).map XF) v8 wr HJS.out (by simpa using hlt)
   simp only [e88] at hy
   clear hv8 hx j8
   go_upto_region 3 with fail
   rw [← wpIn_wide (n:=m)]
   gi_wp2
   refine hR.mono ?_
   rintro e w4 (⟨rfl,hJ4,hk4⟩|⟨rfl,hJx4⟩)
   ·gi_wp2
    go_wp2_with fail
    exact ⟨⟨k+1,by omega,by go_num,J8.out _ hJ4,HB.out.trans hk4⟩,by simp [intOf];omega⟩
   ·gi_wp2
    go_wp2_with fail
    refine bodyPost_ret (results_none rfl _ _ _) rfl ?_
    exact ⟨⟨_,rfl⟩,.inr ⟨_,trivial,hJx4⟩⟩
  ·obtain rfl:k=n:=by omega
   go_wp2_with fail
   refine bodyPost_end (results_none rfl _ _ _) rfl ?_
   exact ⟨⟨_,rfl⟩,.inl ⟨(List.range k).map XF,by first|rfl|simp,HJS.out⟩⟩
theorem pairs_any (A A':Option Addr) (n cap n' cap':Nat) (w:World) :
  Calls Tryz.prog 56 #[.slice A n cap,.slice A' n' cap'] w fun e w'=>e=.returned (.func (.func 98) #[] #[.pointer (some ⟨w.heap.size,0,none⟩),.pointer (some ⟨w.heap.size+1,0,none⟩)])∧w'=(w.alloc (.cells #[.slice A n cap] 23)).alloc (.cells #[.slice A' n' cap'] 23):=by
 go_enter Tryz.func56,Tryz.ntmps56
 go_wp2_with fail
 go_ret
 exact ⟨rfl,rfl⟩
end Go.Proofs.YtlbkekabmpienaaGreat
set_option linter.unusedVariables false
set_option linter.unusedSimpArgs false
namespace Go.Proofs.YtlbkekabmpienaaGreat
open Go
section
variable {P:Program} {ops:Array Oper} {Q:Exit → Act → World → Prop} {l n:Nat}
def noDefer (ops:Array Oper):Bool:=ops.all fun o=>match o.op with|.defer _=>false|_=>true
theorem upon_round (o:Oper) (a:Act) (K:Act → World → Prop) (r:Result Next) (h:o.upon P a K Q r) (K':Act → World → Prop) (hK:∀ a w,K a w → K' a w):o.uponIn (Fence.wide.inRound l) n P a K' Q r:=by
 cases r with
 | ok x w' =>
  cases x with
  | value v=>exact hK _ _ h
  | skip=>exact hK _ _ h
  | defer d=>exact hK _ _ h
  | enter f args =>
   refine ⟨(fun h=>by cases h),CallsIn.inRound l (callsIn_wide.2 (Calls.mono h ?_))⟩
   intro e w'' he
   cases e with
   | returned v=>exact hK _ _ he
   | panicked chain=>exact he
   | outgrown=>exact he
  | row row args =>
   refine ⟨(fun h=>by cases h),fun c cs _=>?_⟩
   obtain ⟨v,w'',hr,hs⟩:=h c cs
   exact ⟨v,w'',hK _ _ hr,stepsIn_wide.2 hs⟩
  | _=>exact h.elim
 | halt x w' =>
  cases x with
  | panic v=>exact h
  | _=>exact h.elim
theorem wpOps_round (hd:noDefer ops=true) (hq:¬ LetsOut Q):∀ (s:List Nat) (a:Act) (w:World),wpOps P ops Q s a w → wpOpsIn (Fence.wide.inRound l) n P ops Q s a w
 | [],_,_,h=>h
 | i :: rest,a,w,h=>by
  simp only [wpOps] at h
  simp only [wpOpsIn]
  cases ho:ops[i]? with
  | none=>rw [ho] at h;exact wpOps_round hd hq rest _ _ h
  | some o =>
   rw [ho] at h
   simp only at h ⊢
   by_cases hw:Region.wanted o (yielded ops a.tmps)=true
   ·rw [if_pos hw] at h ⊢
    rcases h with h|h
    ·refine ⟨fun _ _=>trivial,?_⟩
     have hnd:∀ c,o.op ≠ .defer c:=by
      intro c e
      have:=Array.all_eq_true_iff_forall_mem.1 hd o (Array.mem_of_getElem? ho)
      rw [e] at this
      cases this
     show o.uponIn _ n P a _ Q ((o.semAt (some l) a.eval).run P w)
     rw [Oper.semAt_eq _ _ _ hnd]
     exact upon_round o a _ _ h _ (wpOps_round hd hq rest)
    ·exact absurd h.2 hq
   ·rw [if_neg hw] at h ⊢
    exact ⟨fun _ _=>trivial,wpOps_round hd hq rest _ _ h⟩
theorem wpIn_round_T {id:Nat} {a:Act} {w:World} (C:World → Prop) (k0:Nat) (hm:P.follows .mixedOrders=true) (hd:noDefer ops=true) (hq:¬ LetsOut Q) (hS:C w.drew)
  (h:C w.drew → wpAnyT P .any ops Q C k0 ops.size (Array.replicate ops.size false) a w.drew):(Code.region id ops true).wpIn (Fence.wide.inRound l) n P Q a w :=
 wpIn_region_draw fun t=>wpOps_round hd hq _ _ _ (by
  simp only [Region.schedule,hm,Bool.true_or,if_true]
  exact wpAny_sound ops.size t _ a _ (wpAny_of_T _ _ _ _ (h hS)))
end
end Go.Proofs.YtlbkekabmpienaaGreat
namespace Go.Proofs.YtlbkekabmpienaaGreat
set_option linter.unusedVariables false
set_option linter.unusedSimpArgs false
open Go.RowKit Go.ChangeShapes Go.WideShapes Fx
set_option maxRecDepth 100000
set_option maxHeartbeats 4000000
theorem padMay_any (t:Tensor) (A:Option Addr) (n cap:Nat) (p:Int) (w:World) (ht:TensorIn t) (ha:Sl (tInt .i8) w (blo w.heap.size) A n cap t.data) (c1:t.ok=true) :
  Calls Tryz.prog 60 #[.agg #[.int .i64 t.h,.int .i64 t.v,.int .i64 t.c,.slice A n cap],.int .i64 p] w fun e w'=>e=.returned (.int .i64 (if p < 0 ∨ 4 < p then 2 else 0))∧Below w.heap.size w w':=by
 have c1':decide (0 < elems t.h t.v t.c∧elems t.h t.v t.c=n)=true:=by rw [← ha.n_eq];simpa [Tensor.ok] using c1
 have RI:=zH (fun w=>tensorRight_any t.h t.v t.c A n cap w ht.h ht.v ht.c (Nat.le_trans ha.cap_le ha.max_le))
 rw [c1'] at RI
 have FR:=zH (Far.refl w)
 obtain ⟨w1,hw_w1,BA,k_w1⟩:=nB w #[.int .i64 t.h,.int .i64 t.v,.int .i64 t.c,.slice A n cap] 32
 replace FR:=zH (FR.out.fut k_w1)
 clear k_w1
 clear ht ha c1 c1'
 by_cases a1:p < 0
 ·rw [if_pos (.inl a1)]
  go_enter Tryz.func60,Tryz.ntmps60
  go_wp2_with (first|(refine lB 32 (.tmp 2) w.heap.size BA.out Tryz.underlying32 ?_)|(go_at_call 17;refine (RI.out _).mono ?_;rintro e w4 ⟨rfl,hb⟩;replace FR:=zH (FR.out.fut hb);clear hb hw_w1))
  go_ret
  exact ⟨rfl,FR.out.out⟩
 ·by_cases a2:4 < p
  ·rw [if_pos (.inr a2)]
   go_enter Tryz.func60,Tryz.ntmps60
   go_wp2_with (first|(refine lB 32 (.tmp 2) w.heap.size BA.out Tryz.underlying32 ?_)|(go_at_call 17;refine (RI.out _).mono ?_;rintro e w4 ⟨rfl,hb⟩;replace FR:=zH (FR.out.fut hb);clear hb hw_w1))
   go_ret
   exact ⟨rfl,FR.out.out⟩
  ·rw [if_neg (by omega)]
   go_enter Tryz.func60,Tryz.ntmps60
   go_wp2_with (first|(refine lB 32 (.tmp 2) w.heap.size BA.out Tryz.underlying32 ?_)|(go_at_call 17;refine (RI.out _).mono ?_;rintro e w4 ⟨rfl,hb⟩;replace FR:=zH (FR.out.fut hb);clear hb hw_w1))
   go_ret
   exact ⟨rfl,FR.out.out⟩
end Go.Proofs.YtlbkekabmpienaaGreat
namespace Go.Proofs.YtlbkekabmpienaaGreat
set_option linter.unusedVariables false
set_option linter.unusedSimpArgs false
open Go.RowKit Go.ChangeShapes Go.WideShapes Fx
set_option maxRecDepth 100000
set_option maxHeartbeats 8000000
def pixV (H V C:Nat) (l:List Int) (y x:Int) (c:Nat) (z:Int):Int:=if inside H V y x then l.getD (placeV V C y x c) 0 else z
def padF (H V C:Nat) (l:List Int) (p:Nat) (z:Int) (Wo i:Nat):Int:=pixV H V C l ((i / C / Wo:Nat) - (p:Int)) ((i / C % Wo:Nat) - (p:Int)) (i % C) z
theorem pixV_in {H V C:Nat} {l:List Int} {y x:Int} {c:Nat} {z:Int} (hl:∀ i,InK .i8 (l.getD i 0)) (hz:InK .i8 z):InK .i8 (pixV H V C l y x c z):=by
 unfold pixV
 split
 ·exact hl _
 ·exact hz
end Go.Proofs.YtlbkekabmpienaaGreat
namespace Go.Proofs.YtlbkekabmpienaaGreat
set_option linter.unusedVariables false
set_option linter.unusedSimpArgs false
open Go.RowKit Go.ChangeShapes Go.WideShapes Fx
set_option maxRecDepth 100000
set_option maxHeartbeats 4000000
/-- A tensor with room around it. -/
def padQ (t:Tensor) (p:Nat) (z:Int):Tensor × Int:=if elems (t.h+2*p) (t.v+2*p) t.c=0 then (noTensor,5)
 else (⟨t.h+2*p,t.v+2*p,t.c,(List.range (elems (t.h+2*p) (t.v+2*p) t.c).toNat).map (padF t.h.toNat t.v.toNat t.c.toNat t.data p z (t.v.toNat+2*p))⟩,0)
end Go.Proofs.YtlbkekabmpienaaGreat
namespace Go.Proofs.YtlbkekabmpienaaGreat
set_option linter.unusedVariables false
set_option linter.unusedSimpArgs false
open Go.RowKit Go.ChangeShapes Go.WideShapes Fx
set_option maxRecDepth 100000
set_option maxHeartbeats 4000000
theorem padFrom_any (a:Addr) (h x p:Int) (w:World) (hp:w.cell? a=some (.int .i64 p)) (b1:-1000≤h∧h≤1000) (b2:-1000≤x∧x≤1000) (b3:-4≤p∧p≤4) :
  Calls Tryz.prog 104 #[.int .i64 h,.int .i64 x,.pointer (some a)] w fun e w'=>e=.returned (.tuple #[.int .i64 (h - p),.int .i64 (x - p)])∧Below w.heap.size w w':=by
 obtain ⟨c1,c2⟩:=b1
 obtain ⟨c3,c4⟩:=b2
 obtain ⟨c5,c6⟩:=b3
 go_enter Tryz.func104,Tryz.ntmps104
 go_wp2_with fail
 go_quiet (fail)
 go_wp2_with fail
 go_ret2
 exact ⟨rfl,below_drewN (Below.refl _ _) _⟩
end Go.Proofs.YtlbkekabmpienaaGreat
