/-
  Sums (layers 16, 17, 10): lane.Of, depth.Of, the document's, whatever the tensor.
  A load of a part of a block, inside a region that draws its order and is walked once (quiet).
  '!=' of two structs in a region that only reads; a literal slice of several structs (laws for the operations).
  The numbers of two lists, pair by pair (layer 20: join.pairs).
  A region that draws its order, in the body of a loop over a function: by the laws for such a region anywhere.
  Room around a tensor (layer 9): the document's Resize, of a tensor that is right.
  Room around a tensor (layer 9): the function of pad.resized.
  slices.Equal of []int8.
  Two nodes compared (layer 25): kinds.same.
  The document's comparison of equal tensors (layer 5).
-/
import Derived.Test.YtjkmjpjknmghlaaGreatJ19
import Derived.Test.YtjkmjpjknmghlaaGreatJ20
import Derived.Test.YtjkmjpjknmghlaaGreatJ27
import Derived.Test.YtjkmjpjknmghlaaGreatJ36
set_option linter.unusedVariables false
set_option linter.unusedSimpArgs false
namespace Go.Proofs.YtjkmjpjknmghlaaGreat
open Go.RowKit Go.ChangeShapes Go.WideShapes
set_option maxRecDepth 100000
theorem laneOf_any (t:Tensor) (A:Option Addr) (n cap:Nat) (d:Node) (W:Option Addr) (nw cw:Nat) (B:Option Addr) (nb cb:Nat) (w:World) (ht:TensorIn t) (hd:NodeIn d)
  (ha:Sl (tInt .i8) w (blo w.heap.size) A n cap t.data) (hw:Sl (tInt .i8) w (blo w.heap.size) W nw cw d.w) (hb:Sl (tInt .i32) w (blo w.heap.size) B nb cb d.bias) (mw:nw≤2000∧nb≤200) (hk3:d.k=3) (hs1:d.s=1) :
  Calls Tryz.prog 120 #[.agg (tN t.h t.v t.c A n cap),.agg (nN d.kind d.a d.b d.k d.s d.p d.out d.za d.zb W nw cw B nb cb d.qm d.qs d.qz d.rm d.rs d.rz d.lo d.hi)] w (RetT .i32 (convOf t d).1 (convOf t d).2 w):=by
 by_cases c1:t.ok=true
 ·by_cases c2:(convV t.h t.v t.c d).2=0
  ·exact laneOf_good t A n cap d W nw cw B nb cb w ht hd ha hw hb mw c1 c2 hk3 hs1
  ·have e:convOf t d=(noTensor,(convV t.h t.v t.c d).2):=by unfold convOf;rw [if_pos c1,if_neg c2]
   rw [e];exact laneOf_code t A n cap d W nw cw B nb cb w ht hd ha hw hb (by omega) c1 c2
 ·have e:convOf t d=(noTensor,5):=by unfold convOf;rw [if_neg c1]
  rw [e];exact laneOf_bad t A n cap d W nw cw B nb cb w ht hd ha hw hb c1
theorem depthOf_any (t:Tensor) (A:Option Addr) (n cap:Nat) (d:Node) (W:Option Addr) (nw cw:Nat) (B:Option Addr) (nb cb:Nat) (w:World) (ht:TensorIn t) (hd:NodeIn d)
  (ha:Sl (tInt .i8) w (blo w.heap.size) A n cap t.data) (hw:Sl (tInt .i8) w (blo w.heap.size) W nw cw d.w) (hb:Sl (tInt .i32) w (blo w.heap.size) B nb cb d.bias) (mw:nw≤2000∧nb≤200) :
  Calls Tryz.prog 122 #[.agg (tN t.h t.v t.c A n cap),.agg (nN d.kind d.a d.b d.k d.s d.p d.out d.za d.zb W nw cw B nb cb d.qm d.qs d.qz d.rm d.rs d.rz d.lo d.hi)] w (RetT .i32 (depthOf t d).1 (depthOf t d).2 w):=by
 by_cases c1:t.ok=true
 ·by_cases c2:(depthV t.h t.v t.c d).2=0
  ·exact depthOf_good t A n cap d W nw cw B nb cb w ht hd ha hw hb mw c1 c2
  ·have e:depthOf t d=(noTensor,(depthV t.h t.v t.c d).2):=by unfold depthOf;rw [if_pos c1,if_neg c2]
   rw [e];exact depthOf_code t A n cap d W nw cw B nb cb w ht hd ha hw hb (by omega) c1 c2
 ·have e:depthOf t d=(noTensor,5):=by unfold depthOf;rw [if_neg c1]
  rw [e];exact depthOf_bad t A n cap d W nw cw B nb cb w ht hd ha hw hb c1
theorem rconvOf_any (t:Tensor) (A:Option Addr) (n cap:Nat) (d:Node) (W:Option Addr) (nw cw:Nat) (B:Option Addr) (nb cb:Nat) (w:World) (ht:TensorIn t) (hd:NodeIn d)
  (ha:Sl (tInt .i8) w (blo w.heap.size) A n cap t.data) (hw:Sl (tInt .i8) w (blo w.heap.size) W nw cw d.w) (hb:Sl (tInt .i32) w (blo w.heap.size) B nb cb d.bias) (mw:nw≤2000∧nb≤200) :
  Calls Tryz.prog 64 #[.agg (tN t.h t.v t.c A n cap),.agg (nN d.kind d.a d.b d.k d.s d.p d.out d.za d.zb W nw cw B nb cb d.qm d.qs d.qz d.rm d.rs d.rz d.lo d.hi)] w (RetT .i32 (convOf t d).1 (convOf t d).2 w):=by
 by_cases c1:t.ok=true
 ·by_cases c2:(convV t.h t.v t.c d).2=0
  ·exact rconvOf_good t A n cap d W nw cw B nb cb w ht hd ha hw hb mw c1 c2
  ·have e:convOf t d=(noTensor,(convV t.h t.v t.c d).2):=by unfold convOf;rw [if_pos c1,if_neg c2]
   rw [e];exact rconvOf_code t A n cap d W nw cw B nb cb w ht hd ha hw hb (by omega) c1 c2
 ·have e:convOf t d=(noTensor,5):=by unfold convOf;rw [if_neg c1]
  rw [e];exact rconvOf_bad t A n cap d W nw cw B nb cb w ht hd ha hw hb c1
theorem rdepthOf_any (t:Tensor) (A:Option Addr) (n cap:Nat) (d:Node) (W:Option Addr) (nw cw:Nat) (B:Option Addr) (nb cb:Nat) (w:World) (ht:TensorIn t) (hd:NodeIn d)
  (ha:Sl (tInt .i8) w (blo w.heap.size) A n cap t.data) (hw:Sl (tInt .i8) w (blo w.heap.size) W nw cw d.w) (hb:Sl (tInt .i32) w (blo w.heap.size) B nb cb d.bias) (mw:nw≤2000∧nb≤200) :
  Calls Tryz.prog 65 #[.agg (tN t.h t.v t.c A n cap),.agg (nN d.kind d.a d.b d.k d.s d.p d.out d.za d.zb W nw cw B nb cb d.qm d.qs d.qz d.rm d.rs d.rz d.lo d.hi)] w (RetT .i32 (depthOf t d).1 (depthOf t d).2 w):=by
 by_cases c1:t.ok=true
 ·by_cases c2:(depthV t.h t.v t.c d).2=0
  ·exact rdepthOf_good t A n cap d W nw cw B nb cb w ht hd ha hw hb mw c1 c2
  ·have e:depthOf t d=(noTensor,(depthV t.h t.v t.c d).2):=by unfold depthOf;rw [if_pos c1,if_neg c2]
   rw [e];exact rdepthOf_code t A n cap d W nw cw B nb cb w ht hd ha hw hb (by omega) c1 c2
 ·have e:depthOf t d=(noTensor,5):=by unfold depthOf;rw [if_neg c1]
  rw [e];exact rdepthOf_bad t A n cap d W nw cw B nb cb w ht hd ha hw hb c1
end Go.Proofs.YtjkmjpjknmghlaaGreat
namespace Go.Proofs.YtjkmjpjknmghlaaGreat
open Go Go.RowKit
theorem range_blk {w:World} {g off:Nat} {e:TypeId} {cs:Array Value} {vs:List Value} (hb:Blk w g e cs) (hvs:(cs.toList.drop off).take vs.length=vs):w.rangeAt g off vs:=by
 intro j v hv
 rw [hb.cell]
 rw [← hvs,List.getElem?_take] at hv
 split at hv
 ·rw [List.getElem?_drop] at hv
  simpa using hv
 ·cases hv
theorem wpQuiet_load_mid {P:Program} {ops:Array Oper} {C:World → Prop} {Q:Act → Prop} {a:Act} {o:Oper} {rest:List Oper} (hw:Region.wanted o (yielded ops a.tmps)=true) (ty:TypeId) (x:Operand) (ho:o.op=.load ty x)
  (b off:Nat) (hx:a.eval x=.pointer (some ⟨b,off,none⟩)) (cs:List Value) (d:TypeDesc) (hC:∀ w,C w → w.rangeAt b off cs)
  (hu:P.underlying ty=some d) (hd:d.isRow=true) (hi:(P.info? ty).map (·.size)=some cs.length) (h:wpQuiet P ops C Q rest (a.put o.dst (.agg cs.toArray))):wpQuiet P ops C Q (o :: rest) a :=
 BigFrame.wpQuiet_want hw fun K hK=>⟨.agg cs.toArray,fun w hw'=>by
  unfold Oper.quietAt execOp
  simp only [ho,hx,Instr.loadAt,Instr.sureAddr,Sem.run_bind,Sem.run_pure,Result.andThen_ok,run_loadVar_mid w b off ty cs d (hC w hw') hu hd hi]
  exact ⟨rfl,rfl⟩,hK _ h⟩
end Go.Proofs.YtjkmjpjknmghlaaGreat
namespace Go.Proofs.YtjkmjpjknmghlaaGreat
open Go Go.RowKit
theorem wpList_load_midw {P:Program} {ops:Array Oper} {rest:List Oper} {o:Oper} {a:Act} {w:World} {Q:Exit → Act → World → Prop} (hw:Region.wanted o (yielded ops a.tmps)=true) (ty:TypeId) (x:Operand) (ho:o.op=.load ty x)
  (b off:Nat) (hx:a.eval x=.pointer (some ⟨b,off,none⟩)) (cs:List Value) (d:TypeDesc) (hC:w.rangeAt b off cs)
  (hu:P.underlying ty=some d) (hd:d.isRow=true) (hi:(P.info? ty).map (·.size)=some cs.length) (h:wpList P ops Q rest (a.put o.dst (.agg cs.toArray)) w):wpList P ops Q (o :: rest) a w:=by
 refine BigFrame.wpList_want hw fun K hK=>?_
 unfold Oper.wp execOp
 simp only [ho,hx,Instr.loadAt,Instr.sureAddr,Sem.run_bind,Sem.run_pure,Result.andThen_ok,run_loadVar_mid w b off ty cs d hC hu hd hi]
 exact hK _ _ h
theorem run_lits {P:Program} {T E:TypeId} {z:Value} {size bytes:Nat} (w:World) (ei:EI P T E z size bytes) (n:Nat) (ps:Array (Nat × Value)) (vs:Array Value) (h0:0 < n*size) (hsm:n*size≤16777216)
  (hf:Instr.fill (fun i=>some (i*size,size)) ((Array.range (n*size)).map (z.cells[· % z.cells.size]!)) ps.toList=some vs) :
  (Instr.buildSlice T n ps).run P w=.ok (.slice (some ⟨w.heap.size,0,none⟩) n n) (w.alloc (.cells vs E)):=by
 obtain ⟨i,hi,hz0,hz1,hz2⟩:=info_parts ei.hi
 have hsz:(sizeOf E).run P w=.ok size w:=by simp [sizeOf,typeInfo,hi,hz1]
 have hzv:(zeroValue E).run P w=.ok z w:=by simp [zeroValue,typeInfo,hi,hz0]
 have hnot:¬ (n*size > 2 ^ 24):=by omega
 have hnz:¬ (n*size=0):=by omega
 unfold Instr.buildSlice
 simp only [Sem.run_bind,run_underlying ei.ht w,Result.andThen_ok,hsz,if_neg hnot,if_neg hnz,hzv,Sem.run_pure,hf,newRow,newObj]
 rfl
section
variable {P:Program} {ops:Array Oper} {rest:List Oper} {o:Oper} {a:Act} {w:World} {Q:Exit → Act → World → Prop} {T E:TypeId} {z:Value} {size bytes:Nat}
theorem wpList_lit2 (hgd:o.guard=none) (x y:Operand) (ho:o.op=.buildSlice T 2 #[(0,x),(1,y)]) (ei:EI P T E z size bytes) (u v:Value) (hx:a.eval x=u) (hy:a.eval y=v) (vs:Array Value) (h0:0 < 2*size) (hsm:2*size≤16777216)
  (hf:Instr.fill (fun i=>some (i*size,size)) ((Array.range (2*size)).map (z.cells[· % z.cells.size]!)) [(0,u),(1,v)]=some vs)
  (h:wpList P ops Q rest (a.put o.dst (.slice (some ⟨w.heap.size,0,none⟩) 2 2)) (w.alloc (.cells vs E))):wpList P ops Q (o :: rest) a w:=by
 refine wpList_plain hgd fun K hK=>?_
 unfold Oper.wp execOp
 simp only [ho,List.map_toArray,List.map_cons,List.map_nil,hx,hy,Sem.run_bind,run_lits w ei 2 #[(0,u),(1,v)] vs h0 hsm hf,Sem.run_pure,Result.andThen_ok]
 exact hK _ _ h
end
end Go.Proofs.YtjkmjpjknmghlaaGreat
namespace Go.Proofs.YtjkmjpjknmghlaaGreat
open Go.RowKit Go.ChangeShapes Go.WideShapes Fx
set_option maxRecDepth 100000
set_option maxHeartbeats 4000000
def e88 (x:I8 × I8):Array Value:=#[Value.int .i8 x.1.1,Value.int .i8 x.2.1]
def pairX (l l':List Int) (hl:∀ i,InK .i8 (l.getD i 0)) (hl':∀ i,InK .i8 (l'.getD i 0)) (i:Nat):I8 × I8:=(⟨l.getD i 0,hl i⟩,⟨l'.getD i 0,hl' i⟩)
structure KeepS (S:Nat → Prop) (W W':World):Prop where
 size:W.heap.size≤W'.heap.size
 same:∀ k,S k → W'.heap[k]?=W.heap[k]?
theorem KeepS.refl (S:Nat → Prop) (W:World):KeepS S W W:=⟨Nat.le_refl _,fun _ _=>rfl⟩
theorem KeepS.trans {S:Nat → Prop} {A B C:World} (h:KeepS S A B) (k:KeepS S B C):KeepS S A C:=⟨Nat.le_trans h.size k.size,fun i hi=>(k.same i hi).trans (h.same i hi)⟩
theorem KeepS.put {S:Nat → Prop} {m:Nat} (hS:∀ k,S k → k < m) (W:World) (l:Nat) (o o':Obj) (hl:m≤l) (h:W.heap[l]?=some o) (h1:o.isCells=false) (h2:o.isWalk=false):KeepS S W (W.putObj l o') :=
 ⟨(grownBy_putObj' W l o').size,fun k hk=>World.putObj_heap_other (fun e=>by have:=hS k hk;omega)⟩
theorem Blk.keepS {w w':World} {S:Nat → Prop} {g:Nat} {e:TypeId} {cs:Array Value} (h:Blk w g e cs) (hk:KeepS S w w') (hg:S g):Blk w' g e cs:=⟨(hk.same g hg).trans h.heap⟩
theorem pairs1_stops (S:Nat → Prop) (A A':Option Addr) (n cap cap':Nat) (l l':List Int) (bA bB m:Nat) (w:World)
  (hl:Sl (tInt .i8) w S A n cap l) (hl':Sl (tInt .i8) w S A' n cap' l') (hn2:n≤1024)
  (BA:Blk w bA 25 #[.slice A n cap]) (BB:Blk w bB 25 #[.slice A' n cap']) (hb:S bA∧S bB) (hS:∀ k,S k → k < w.heap.size) (hm:1≤m) :
  SeqStopsK Fence.wide m Tryz.prog 113 #[.pointer (some ⟨bA,0,none⟩),.pointer (some ⟨bB,0,none⟩)] e88 (KeepS S) (fun ys=>ys=(List.range n).map (pairX l l' hl.allK hl'.allK)) (fun _=>True) n w:=by
 intro lo J Jx W0 hW hJ hJx hY h0
 obtain ⟨XF,hXF⟩:∃ f,pairX l l' hl.allK hl'.allK=f:=⟨_,rfl⟩
 have X1:∀ i,(XF i).1.1=l.getD i 0∧(XF i).2.1=l'.getD i 0:=fun i=>by rw [← hXF];exact ⟨rfl,rfl⟩
 rw [hXF]
 have hWb:KeepS S w W0:=⟨hW.size,fun k hk=>hW.block k (hS k hk)⟩
 have HL:=zH (hl.keep fun b h=>hWb.same b h)
 have HL':=zH (hl'.keep fun b h=>hWb.same b h)
 have GB:=zH hb
 have BA:=zH (BA.keepS hWb hb.1)
 have BB:=zH (BB.keepS hWb hb.2)
 have HX:=zH X1
 have HY:=zH hY
 have mx:n≤9223372036854775807:=by omega
 have a0:=BA.out.cell 0
 clear hl hl' hXF hW hWb hJ hJx hY hb hS X1
 rw [callsIn_wide]
 simp only [List.append_toArray,List.cons_append,List.nil_append]
 go_enter Tryz.func113,Tryz.ntmps113
 go_wp2_with fail
 clear a0
 go_loopw [8] (fun ii wr=>∃ k:Nat,k≤n∧ii=.int .i64 k∧J ((List.range k).map XF) wr∧KeepS S W0 wr) (fun ii _=>n - (intOf ii).toNat)
 case atStart=>exact ⟨0,Nat.zero_le _,rfl,h0,KeepS.refl _ _⟩
 case round =>
  obtain ⟨k,hk,rfl,hj,hbw⟩:=hrel
  have BB:=zH (BB.out.keepS hbw GB.out.2)
  have HL:=zH (HL.out.keep fun b h=>hbw.same b h)
  have HL':=zH (HL'.out.keep fun b h=>hbw.same b h)
  have HJS:=zH hj
  have HB:=zH hbw
  clear hj hbw
  by_cases hlt:k < n
  ·have p1':(k:Int) < (n:Int):=by omega
   obtain ⟨b,o,rfl,-,-,cx,-⟩:=HL.out.int_at k hlt
   obtain ⟨b',o',rfl,-,-,cy,-⟩:=HL'.out.int_at k hlt
   obtain ⟨v8,hv8⟩:∃ v:I8 × I8,XF k=v:=⟨_,rfl⟩
   have hx:=HX.out k
   rw [hv8] at hx
   rw [← hx.1] at cx
   rw [← hx.2] at cy
   have b0:=BB.out.cell 0
   simp only [List.getElem?_toArray,List.getElem?_cons_zero] at b0
   have j8:∀ W,J ((List.range k).map XF ++ [v8]) W → J ((List.range (k+1)).map XF) W:=fun W h=>by
    rw [List.range_succ,List.map_append]
    show J (_ ++ [XF k]) W
    rw [hv8];exact h
   have J8:=zH j8
   obtain ⟨fn,tmps,assign,body,hy,hR⟩:=HY.out ((List.range k).map XF) v8 wr HJS.out (by simpa using hlt)
   simp only [e88] at hy
   clear hv8 hx j8
   go_upto_region 3 with fail
   rw [← wpIn_wide (n:=m)]
   gi_wp2
   refine hR.mono ?_
   rintro e w4 (⟨rfl,hJ4,hk4⟩|⟨rfl,hJx4⟩)
   ·gi_wp2
    go_wp2_with fail
    exact ⟨⟨k+1,by omega,by go_num,J8.out _ hJ4,HB.out.trans hk4⟩,by simp [intOf];omega⟩
   ·gi_wp2
    go_wp2_with fail
    refine bodyPost_ret (results_none rfl _ _ _) rfl ?_
    exact ⟨⟨_,rfl⟩,.inr ⟨_,trivial,hJx4⟩⟩
  ·obtain rfl:k=n:=by omega
   go_wp2_with fail
   refine bodyPost_end (results_none rfl _ _ _) rfl ?_
   exact ⟨⟨_,rfl⟩,.inl ⟨(List.range k).map XF,by first|rfl|simp,HJS.out⟩⟩
theorem pairs_any (A A':Option Addr) (n cap n' cap':Nat) (w:World) :
  Calls Tryz.prog 83 #[.slice A n cap,.slice A' n' cap'] w fun e w'=>e=.returned (.func (.func 113) #[] #[.pointer (some ⟨w.heap.size,0,none⟩),.pointer (some ⟨w.heap.size+1,0,none⟩)])∧w'=(w.alloc (.cells #[.slice A n cap] 25)).alloc (.cells #[.slice A' n' cap'] 25):=by
 go_enter Tryz.func83,Tryz.ntmps83
 go_wp2_with fail
 go_ret
 exact ⟨rfl,rfl⟩
end Go.Proofs.YtjkmjpjknmghlaaGreat
namespace Go.Proofs.YtjkmjpjknmghlaaGreat
open Go
section
variable {P:Program} {ops:Array Oper} {Q:Exit → Act → World → Prop} {l n:Nat}
def noDefer (ops:Array Oper):Bool:=ops.all fun o=>match o.op with|.defer _=>false|_=>true
theorem upon_round (o:Oper) (a:Act) (K:Act → World → Prop) (r:Result Next) (h:o.upon P a K Q r) (K':Act → World → Prop) (hK:∀ a w,K a w → K' a w):o.uponIn (Fence.wide.inRound l) n P a K' Q r:=by
 cases r with
 | ok x w' =>
  cases x with
  | value v=>exact hK _ _ h
  | skip=>exact hK _ _ h
  | defer d=>exact hK _ _ h
  | enter f args =>
   refine ⟨(fun h=>by cases h),CallsIn.inRound l (callsIn_wide.2 (Calls.mono h ?_))⟩
   intro e w'' he
   cases e with
   | returned v=>exact hK _ _ he
   | panicked chain=>exact he
   | outgrown=>exact he
  | row row args =>
   refine ⟨(fun h=>by cases h),fun c cs _=>?_⟩
   obtain ⟨v,w'',hr,hs⟩:=h c cs
   exact ⟨v,w'',hK _ _ hr,stepsIn_wide.2 hs⟩
  | _=>exact h.elim
 | halt x w' =>
  cases x with
  | panic v=>exact h
  | _=>exact h.elim
theorem wpOps_round (hd:noDefer ops=true) (hq:¬ LetsOut Q):∀ (s:List Nat) (a:Act) (w:World),wpOps P ops Q s a w → wpOpsIn (Fence.wide.inRound l) n P ops Q s a w
 | [],_,_,h=>h
 | i :: rest,a,w,h=>by
  simp only [wpOps] at h
  simp only [wpOpsIn]
  cases ho:ops[i]? with
  | none=>rw [ho] at h;exact wpOps_round hd hq rest _ _ h
  | some o =>
   rw [ho] at h
   simp only at h ⊢
   by_cases hw:Region.wanted o (yielded ops a.tmps)=true
   ·rw [if_pos hw] at h ⊢
    rcases h with h|h
    ·refine ⟨fun _ _=>trivial,?_⟩
     have hnd:∀ c,o.op ≠ .defer c:=by
      intro c e
      have:=Array.all_eq_true_iff_forall_mem.1 hd o (Array.mem_of_getElem? ho)
      rw [e] at this
      cases this
     show o.uponIn _ n P a _ Q ((o.semAt (some l) a.eval).run P w)
     rw [Oper.semAt_eq _ _ _ hnd]
     exact upon_round o a _ _ h _ (wpOps_round hd hq rest)
    ·exact absurd h.2 hq
   ·rw [if_neg hw] at h ⊢
    exact ⟨fun _ _=>trivial,wpOps_round hd hq rest _ _ h⟩
theorem wpIn_round_T {id:Nat} {a:Act} {w:World} (C:World → Prop) (k0:Nat) (hm:P.follows .mixedOrders=true) (hd:noDefer ops=true) (hq:¬ LetsOut Q) (hS:C w.drew)
  (h:C w.drew → wpAnyT P .any ops Q C k0 ops.size (Array.replicate ops.size false) a w.drew):(Code.region id ops true).wpIn (Fence.wide.inRound l) n P Q a w :=
 wpIn_region_draw fun t=>wpOps_round hd hq _ _ _ (by
  simp only [Region.schedule,hm,Bool.true_or,if_true]
  exact wpAny_sound ops.size t _ a _ (wpAny_of_T _ _ _ _ (h hS)))
end
end Go.Proofs.YtjkmjpjknmghlaaGreat
namespace Go.Proofs.YtjkmjpjknmghlaaGreat
open Go.RowKit Go.ChangeShapes Go.WideShapes Fx
set_option maxRecDepth 100000
set_option maxHeartbeats 4000000
def padQ (t:Tensor) (p:Nat) (z:Int):Tensor × Int:=if elems (t.h+2*p) (t.v+2*p) t.c=0 then (noTensor,5)
 else (⟨t.h+2*p,t.v+2*p,t.c,(List.range (elems (t.h+2*p) (t.v+2*p) t.c).toNat).map (padF t.h.toNat t.v.toNat t.c.toNat t.data p z (t.v.toNat+2*p))⟩,0)
theorem rresize_any (t:Tensor) (H V C p:Nat) (A:Option Addr) (n cap:Nat) (z:Int) (w:World) (ha:Sl (tInt .i8) w (blo w.heap.size) A n cap t.data) (TK:TOk t n H V C) (hp:p≤4) (hz:InK .i8 z) :
  Calls Tryz.prog 37 #[.agg (tN H V C A n cap),.int .i64 p,.int .i8 z] w (RetT .i8 (padQ t p z).1 (padQ t p z).2 w):=by
 have HA:=zH ha
 have k1:=TK.h1
 have k2:=TK.v1
 have k3:=TK.c1
 unfold padQ
 rw [TK.h,TK.v,TK.c]
 simp only [Int.toNat_natCast]
 obtain ⟨Ho,hHo⟩:∃ m,H+2*p=m:=⟨_,rfl⟩
 obtain ⟨Wo,hWo⟩:∃ m,V+2*p=m:=⟨_,rfl⟩
 have i1:(H:Int)+2*(p:Int)=(Ho:Int):=by omega
 have i2:(V:Int)+2*(p:Int)=(Wo:Int):=by omega
 rw [i1,i2,hWo]
 have EL:=zH (fun w=>relems_any (Ho:Int) (C:Int) (Wo:Int) w (by rw [inK_i64];omega) (by rw [inK_i64];omega) (by rw [inK_i64];omega))
 have FR:=zH (Far.refl w)
 obtain ⟨w1,hw_w1,BT,k_w1⟩:=nB w (tN H V C A n cap) 27
 replace FR:=zH (FR.out.fut k_w1)
 clear k_w1
 obtain ⟨w2,hw_w2,BR,k_w2⟩:=nB w1 (tN 0 0 0 none 0 0) 27
 replace FR:=zH (FR.out.fut k_w2)
 replace BT:=zH (BT.out.fut k_w2)
 clear k_w2
 obtain ⟨w3,hw_w3,BS,k_w3⟩:=nB w2 (sN Ho Wo C) 24
 replace FR:=zH (FR.out.fut k_w3)
 replace BT:=zH (BT.out.fut k_w3)
 replace BR:=zH (BR.out.fut k_w3)
 clear k_w3
 have l1:w.heap.size < w1.heap.size:=by rw [← hw_w1];simp
 have l2:w1.heap.size < w2.heap.size:=by rw [← hw_w2];simp
 have d0:w2.cell? ⟨w.heap.size,0,none⟩=some (.int .i64 H):=by rw [← hw_w2];exact ((show Blk w1 w.heap.size 27 (tN H V C A n cap) by rw [← hw_w1];exact Blk.now _ _ _ _ rfl).past _).cell 0
 have d1:w2.cell? ⟨w.heap.size,1,none⟩=some (.int .i64 V):=by rw [← hw_w2];exact ((show Blk w1 w.heap.size 27 (tN H V C A n cap) by rw [← hw_w1];exact Blk.now _ _ _ _ rfl).past _).cell 1
 have d2:w2.cell? ⟨w.heap.size,2,none⟩=some (.int .i64 C):=by rw [← hw_w2];exact ((show Blk w1 w.heap.size 27 (tN H V C A n cap) by rw [← hw_w1];exact Blk.now _ _ _ _ rfl).past _).cell 2
 by_cases e0:elems (Ho:Int) (Wo:Int) (C:Int)=0
 ·rw [if_pos e0]
  rw [e0] at EL
  clear e0 ha TK hz
  go_enter Tryz.func37,Tryz.ntmps37
  go_wp2_with (first|(refine lB 24 (.tmp 8) w2.heap.size BS.out Tryz.underlying24 ?_)|(go_at_call 29;refine (EL.out _).mono ?_;rintro e w4 ⟨rfl,hb⟩;replace FR:=zH (FR.out.fut hb);replace BT:=zH (BT.out.fut hb);replace BR:=zH (BR.out.fut hb);replace BS:=zH (BS.out.fut hb);clear hb hw_w1 hw_w2 hw_w3 d0 d1 d2)|(refine sB 27 (.tmp 6) (.tmp 28) w1.heap.size (tN 0 0 0 none 0 0) BR.out ?_;intro w9 B9 g9))
  refine rC B9 Tryz.underlying27 ?_
  exact RetT.none (FR.out.away g9 (by omega)).out
 ·rw [if_neg e0]
  obtain ⟨H',V',C',q1,q2,q3,b1,b2,b3,q4,q5⟩:=elems_nat e0
  obtain rfl:Ho=H':=by omega
  obtain rfl:Wo=V':=by omega
  obtain rfl:C=C':=by omega
  obtain ⟨N,hN⟩:∃ N,Ho*Wo*C=N:=⟨_,rfl⟩
  rw [hN] at q4 q5
  rw [q4] at EL ⊢
  rw [Int.toNat_natCast]
  have hN0:¬ N=0:=by intro e;rw [e] at q4;exact e0 q4
  have hN1:((N:Int) == 0)=false:=by simp;omega
  have MV:=zH (fun wq (h:Sl (tInt .i8) wq (blo wq.heap.size) A n cap t.data)=>rmove_any H V C Ho Wo p A n cap t.data z N wq h TK.n_eq TK.n_le k1.2 k2.2 k3 b1.2 b2 hp hz hN q5)
  clear e0 ha TK hz q1 q2 q3 q4 hN
  go_enter Tryz.func37,Tryz.ntmps37
  go_wp2_with (first|(refine lB 24 (.tmp 8) w2.heap.size BS.out Tryz.underlying24 ?_)|(go_at_call 29;refine (EL.out _).mono ?_;rintro e w4 ⟨rfl,hb⟩;replace FR:=zH (FR.out.fut hb);replace BT:=zH (BT.out.fut hb);replace BR:=zH (BR.out.fut hb);replace BS:=zH (BS.out.fut hb);clear hb hw_w1 hw_w2 hw_w3 d0 d1 d2)|(refine lB 27 (.tmp 3) w.heap.size BT.out Tryz.underlying27 ?_))
  refine (MV.out _ ((Old.now HA.out).fut FR.out.out).all).mono ?_
  rintro e wm ⟨RA,rc,rfl,rs,hb⟩
  have RS:=zH (show New w4 (tInt .i8) wm RA N rc _ from ⟨rs⟩)
  have lbr:=BR.out.lt
  have lfr:=FR.out.size
  replace BR:=zH (BR.out.fut hb)
  replace FR:=zH (FR.out.fut hb)
  clear hb rs
  go_wp2_with (refine sB 27 (.tmp 6) (.tmp 34) w1.heap.size (tN Ho Wo C RA N rc) BR.out ?_;intro w9 B9 g9)
  refine rC B9 Tryz.underlying27 ?_
  exact ⟨RA,N,rc,rfl,(RS.out.away g9 lbr).out.more (bin_more lfr (Nat.le_refl _)),(FR.out.away g9 (by omega)).out⟩
end Go.Proofs.YtjkmjpjknmghlaaGreat
namespace Go.Proofs.YtjkmjpjknmghlaaGreat
open Go.RowKit Go.ChangeShapes Go.WideShapes Fx
set_option maxRecDepth 100000
set_option maxHeartbeats 4000000
theorem padFrom_any (a:Addr) (h x p:Int) (w:World) (hp:w.cell? a=some (.int .i64 p)) (b1:-1000≤h∧h≤1000) (b2:-1000≤x∧x≤1000) (b3:-4≤p∧p≤4) :
  Calls Tryz.prog 118 #[.int .i64 h,.int .i64 x,.pointer (some a)] w fun e w'=>e=.returned (.tuple #[.int .i64 (h - p),.int .i64 (x - p)])∧Below w.heap.size w w':=by
 obtain ⟨c1,c2⟩:=b1
 obtain ⟨c3,c4⟩:=b2
 obtain ⟨c5,c6⟩:=b3
 go_enter Tryz.func118,Tryz.ntmps118
 go_wp2_with fail
 go_quiet (fail)
 go_wp2_with fail
 go_ret2
 exact ⟨rfl,below_drewN (Below.refl _ _) _⟩
end Go.Proofs.YtjkmjpjknmghlaaGreat
namespace Go.Proofs.YtjkmjpjknmghlaaGreat
open Go.RowKit Go.ChangeShapes Go.WideShapes
set_option maxRecDepth 100000
theorem equal8_any (A A':Option Addr) (n cap n' cap':Nat) (l l':List Int) (w:World) (h:Sl (tInt .i8) w (blo w.heap.size) A n cap l) (h':Sl (tInt .i8) w (blo w.heap.size) A' n' cap' l') :
  Calls Tryz.prog 103 #[.slice A n cap,.slice A' n' cap'] w fun e w'=>e=.returned (.bool (decide (l=l')))∧Below w.heap.size w w':=by
 have hm:n≤9223372036854775807:=Nat.le_trans h.cap_le h.max_le
 have hm':n'≤9223372036854775807:=Nat.le_trans h'.cap_le h'.max_le
 have H:=zH h
 have H':=zH h'
 clear h h'
 by_cases hn:n=n'
 rotate_left
 ·have d1:((n:Int) != (n':Int))=true:=by rw [bne_iff_ne];omega
  have d2:decide (l=l')=false:=by rw [decide_eq_false_iff_not];rintro rfl;exact hn (H.out.n_eq.symm.trans H'.out.n_eq)
  rw [d2]
  clear hn
  go_enter Tryz.func103,Tryz.ntmps103
  go_wp2_with fail
  go_ret
  exact ⟨rfl,Below.refl _ _⟩
 subst hn
 have d1:((n:Int) != (n:Int))=false:=by simp
 go_enter Tryz.func103,Tryz.ntmps103
 go_wp2_with fail
 go_loopw [13] (fun i wr=>∃ k:Nat,k≤n∧i=.int .i64 k∧wr.heap=w.heap∧Below w.heap.size w wr∧∀ j,j < k → l.getD j 0=l'.getD j 0) (fun i _=>n - (intOf i).toNat)
 case atStart=>exact ⟨0,Nat.zero_le _,rfl,rfl,Below.refl _ _,fun j hj=>absurd hj (Nat.not_lt_zero _)⟩
 case round =>
  obtain ⟨k,hk,rfl,hh,hb,hq⟩:=hrel
  have HQ:=zH hq
  clear hq
  by_cases hlt:k < n
  ·obtain ⟨b,off,rfl,_,_,c0,i0⟩:=(H.out.below hb (fun _ h=>h)).int_at k hlt
   obtain ⟨b',off',rfl,_,_,c1,i1⟩:=(H'.out.below hb (fun _ h=>h)).int_at k hlt
   have HH:=zH hh
   clear hh i0 i1
   by_cases he:l.getD k 0=l'.getD k 0
   ·rw [← he] at c1
    generalize hx:l.getD k 0=x at *
    have d3:(x != x)=false:=by simp
    have HX:=zH hx
    have HE:=zH he
    clear hx he
    go_wp2_with fail
    go_quiet (fail)
    go_wp2_with fail
    refine ⟨⟨k+1,by omega,by go_num,HH.out,below_drewN hb _,fun j hj=>?_⟩,by simp [intOf];omega⟩
    by_cases hjk:j < k
    ·exact HQ.out j hjk
    ·obtain rfl:j=k:=by omega
     rw [HX.out,HE.out]
   ·have d2:decide (l=l')=false:=by rw [decide_eq_false_iff_not];rintro rfl;exact he rfl
    have d3:(l.getD k 0 != l'.getD k 0)=true:=by rw [bne_iff_ne];exact he
    generalize l.getD k 0=x at *
    generalize l'.getD k 0=y at *
    have D2:=zH d2
    clear d2 he
    go_wp2_with fail
    go_quiet (fail)
    go_wp2_with fail
    go_ret
    exact ⟨by rw [D2.out];rfl,below_drewN hb _⟩
  ·obtain rfl:k=n:=by omega
   go_wp2_with fail
   go_ret
   exact ⟨by rw [decide_eq_true (list_eq_getD H.out.n_eq H'.out.n_eq HQ.out)];rfl,hb⟩
set_option maxHeartbeats 64000000 in
theorem same_bools (y8 y32 x8 x4 xq xr:Bool) (kind a b k s p out za zb qm qs qz rm rs rz lo hi:Int) (kind' a' b' k' s' p' out' za' zb' qm' qs' qz' rm' rs' rz' lo' hi':Int) (wl bl wl' bl':List Int) (W:Option Addr) (nw cw:Nat) (B:Option Addr) (nb cb:Nat) (W':Option Addr) (nw' cw':Nat) (B':Option Addr) (nb' cb':Nat) (w:World)
  (hw:Sl (tInt .i8) w (blo w.heap.size) W nw cw wl) (hb:Sl (tInt .i32) w (blo w.heap.size) B nb cb bl) (hw':Sl (tInt .i8) w (blo w.heap.size) W' nw' cw' wl') (hb':Sl (tInt .i32) w (blo w.heap.size) B' nb' cb' bl')
  (g8:decide (wl=wl')=y8) (g32:decide (bl=bl')=y32) (f8:([kind,a,b,k,s,p,out,0] == [kind',a',b',k',s',p',out',0])=x8) (f4:([za,zb,lo,hi] == [za',zb',lo',hi'])=x4) (fq:([qm,qs,qz] == [qm',qs',qz'])=xq) (fr:([rm,rs,rz] == [rm',rs',rz'])=xr) :
  Calls Tryz.prog 70 #[.agg (nN kind a b k s p out za zb W nw cw B nb cb qm qs qz rm rs rz lo hi),.agg (nN kind' a' b' k' s' p' out' za' zb' W' nw' cw' B' nb' cb' qm' qs' qz' rm' rs' rz' lo' hi')] w fun e w'=>e=.returned (.bool (y8 && y32 && x8 && x4 && xq && xr))∧Below w.heap.size w w':=by
 have FR:=zH (Far.refl w)
 have HW:=zH hw
 have HB:=zH hb
 have HW':=zH hw'
 have HB':=zH hb'
 have Q8:=zH (fun w=>run_eql_arr8 (P:=Tryz.prog) (t:=142) (e:=3) (k:=.i64) w Tryz.underlying142 Tryz.underlying3 (by kernel_rfl) (by kernel_rfl) kind a b k s p out 0 kind' a' b' k' s' p' out' 0)
 have Q4:=zH (fun w=>run_eql_arr4 (P:=Tryz.prog) (t:=143) (e:=39) (k:=.i8) w Tryz.underlying143 Tryz.underlying39 (by kernel_rfl) (by kernel_rfl) za zb lo hi za' zb' lo' hi')
 have QQ:=zH (fun w=>run_eql_st3 (P:=Tryz.prog) (t:=42) (k0:=.i32) (k1:=.i64) (k2:=.i8) w Tryz.underlying42 (by kernel_rfl) (by decide) ⟨rfl,rfl,rfl⟩ Tryz.underlying21 Tryz.underlying3 Tryz.underlying39 (by kernel_rfl) (by kernel_rfl) (by kernel_rfl) qm qs qz qm' qs' qz')
 have QR:=zH (fun w=>run_eql_st3 (P:=Tryz.prog) (t:=42) (k0:=.i32) (k1:=.i64) (k2:=.i8) w Tryz.underlying42 (by kernel_rfl) (by decide) ⟨rfl,rfl,rfl⟩ Tryz.underlying21 Tryz.underlying3 Tryz.underlying39 (by kernel_rfl) (by kernel_rfl) (by kernel_rfl) rm rs rz rm' rs' rz')
 clear hw hb hw' hb'
 obtain ⟨w1,hw_w1,BN,k_w1⟩:=nB w (nN kind a b k s p out za zb W nw cw B nb cb qm qs qz rm rs rz lo hi) 44
 replace FR:=zH (FR.out.fut k_w1)
 replace HW:=zH (HW.out.fut k_w1)
 replace HB:=zH (HB.out.fut k_w1)
 replace HW':=zH (HW'.out.fut k_w1)
 replace HB':=zH (HB'.out.fut k_w1)
 clear k_w1
 obtain ⟨w2,hw_w2,BM,k_w2⟩:=nB w1 (nN kind' a' b' k' s' p' out' za' zb' W' nw' cw' B' nb' cb' qm' qs' qz' rm' rs' rz' lo' hi') 44
 replace FR:=zH (FR.out.fut k_w2)
 replace HW:=zH (HW.out.fut k_w2)
 replace HB:=zH (HB.out.fut k_w2)
 replace HW':=zH (HW'.out.fut k_w2)
 replace HB':=zH (HB'.out.fut k_w2)
 replace BN:=zH (BN.out.fut k_w2)
 clear k_w2
 have E8:=zH (fun v (hb:Below w2.heap.size w2 v)=>equal8_any W W' nw cw nw' cw' wl wl' v (HW.out.fut hb) (HW'.out.fut hb))
 have E32:=zH (fun v (hb:Below w2.heap.size w2 v)=>equal32_any B B' nb cb nb' cb' bl bl' v (HB.out.fut hb) (HB'.out.fut hb))
 rw [g8] at E8
 rw [g32] at E32
 rw [f8] at Q8
 rw [f4] at Q4
 rw [fq] at QQ
 rw [fr] at QR
 clear g8 g32 f8 f4 fq fr HW HB HW' HB'

 have ways:(y8=false) ∨ (y8=true∧y32=false) ∨ (y8=true∧y32=true∧x8=false) ∨ (y8=true∧y32=true∧x8=true∧x4=false) ∨ (y8=true∧y32=true∧x8=true∧x4=true∧xq=false) ∨ (y8=true∧y32=true∧x8=true∧x4=true∧xq=true∧xr=false) ∨ (y8=true∧y32=true∧x8=true∧x4=true∧xq=true∧xr=true):=by cases y8 <;> cases y32 <;> cases x8 <;> cases x4 <;> cases xq <;> cases xr <;> simp
 rcases ways with rfl|⟨rfl,rfl⟩|⟨rfl,rfl,rfl⟩|⟨rfl,rfl,rfl,rfl⟩|⟨rfl,rfl,rfl,rfl,rfl⟩|⟨rfl,rfl,rfl,rfl,rfl,rfl⟩|⟨rfl,rfl,rfl,rfl,rfl,rfl⟩
 all_goals
  have cN9:=BN.out.cell 9
  have cM9:=BM.out.cell 9
  go_enter Tryz.func70,Tryz.ntmps70
  go_wp2_with fail
  refine (E8.out _ (Below.refl _ _)).mono ?_
  rintro e w3 ⟨rfl,b3⟩
  have K3:=zH b3
  replace FR:=zH (FR.out.fut b3)
  replace BN:=zH (BN.out.fut b3)
  replace BM:=zH (BM.out.fut b3)
  clear b3 cN9 cM9 hw_w1 hw_w2
  try (have cN10:=BN.out.cell 10;have cM10:=BM.out.cell 10;go_wp2_with fail;refine (E32.out _ K3.out).mono ?_;rintro e w4 ⟨rfl,b4⟩;replace FR:=zH (FR.out.fut b4);replace BN:=zH (BN.out.fut b4);replace BM:=zH (BM.out.fut b4);clear b4 cN10 cM10)
  clear K3 E8 E32
  have cN0:=BN.out.cell 0
  have cM0:=BM.out.cell 0
  have cN1:=BN.out.cell 1
  have cM1:=BM.out.cell 1
  have cN2:=BN.out.cell 2
  have cM2:=BM.out.cell 2
  have cN3:=BN.out.cell 3
  have cM3:=BM.out.cell 3
  have cN4:=BN.out.cell 4
  have cM4:=BM.out.cell 4
  have cN5:=BN.out.cell 5
  have cM5:=BM.out.cell 5
  have cN6:=BN.out.cell 6
  have cM6:=BM.out.cell 6
  have cN7:=BN.out.cell 7
  have cM7:=BM.out.cell 7
  have cN8:=BN.out.cell 8
  have cM8:=BM.out.cell 8
  have cN11:=BN.out.cell 11
  have cM11:=BM.out.cell 11
  have cN12:=BN.out.cell 12
  have cM12:=BM.out.cell 12
  have cN13:=BN.out.cell 13
  have cM13:=BM.out.cell 13
  have cN14:=BN.out.cell 14
  have cM14:=BM.out.cell 14
  have cN15:=BN.out.cell 15
  have cM15:=BM.out.cell 15
  have cN16:=BN.out.cell 16
  have cM16:=BM.out.cell 16
  have cN17:=BN.out.cell 17
  have cM17:=BM.out.cell 17
  have cN18:=BN.out.cell 18
  have cM18:=BM.out.cell 18
  go_wp2_with (first
   | (refine wpList_eql_agg 142 _ (.tmp 34) (.tmp 49) rfl _ _ rfl rfl (by rfl) (by kernel_rfl) _ (Q8.out _) ?_)
   | (refine wpList_eql_agg 143 _ (.tmp 59) (.tmp 68) rfl _ _ rfl rfl (by rfl) (by kernel_rfl) _ (Q4.out _) ?_)
   | (refine wpList_eql_agg 42 _ (.tmp 79) (.tmp 81) rfl _ _ rfl rfl (by rfl) (by kernel_rfl) _ (QQ.out _) ?_)
   | (refine wpList_eql_agg 42 _ (.tmp 86) (.tmp 88) rfl _ _ rfl rfl (by rfl) (by kernel_rfl) _ (QR.out _) ?_))
  go_ret
  exact ⟨rfl,FR.out.out⟩
set_option maxHeartbeats 1000000
theorem same05_eq (t:Tensor) (A B:Option Addr) (n c m d:Nat) (w:World) (h:Sl (tInt .i8) w (blo w.heap.size) A n c t.data) (h':Sl (tInt .i8) w (blo w.heap.size) B m d t.data) :
  Calls Tryz.prog 10 #[.agg (tN t.h t.v t.c A n c),.agg (tN t.h t.v t.c B m d)] w fun e w'=>e=.returned (.bool true)∧Below w.heap.size w w':=by
 have hm:n≤9223372036854775807:=Nat.le_trans h.cap_le h.max_le
 have hnm:m=n:=h'.n_eq.symm.trans h.n_eq
 subst hnm
 have H:=zH h
 have H':=zH h'
 clear h h'
 obtain ⟨W2,hW2⟩:∃ W2,(w.alloc (.cells (tN t.h t.v t.c A m c) 27)).alloc (.cells (tN t.h t.v t.c B m d) 27)=W2:=⟨_,rfl⟩
 have g2:Below w.heap.size w W2:=by rw [← hW2];exact ((Below.refl _ _).alloc (Nat.le_refl _) _).alloc (by simp) _
 have BA:=zH (show Blk W2 w.heap.size 27 (tN t.h t.v t.c A m c) by rw [← hW2];exact (Blk.now _ _ _ _ rfl).past _)
 have BB:=zH (show Blk W2 (w.heap.size+1) 27 (tN t.h t.v t.c B m d) by rw [← hW2];exact Blk.now _ _ _ _ (by simp))
 have HW:=zH hW2
 clear hW2
 go_enter Tryz.func10,Tryz.ntmps10
 go_wp2_with fail
 rw [HW.out]
 clear HW
 have G2:=zH g2
 clear g2
 go_loopw [5] (fun i wr=>∃ k:Nat,k≤m∧i=.int .i64 k∧Below W2.heap.size W2 wr) (fun i _=>m - (intOf i).toNat)
 case atStart=>exact ⟨0,Nat.zero_le _,rfl,Below.refl _ _⟩
 case round =>
  obtain ⟨k,hk,rfl,hb⟩:=hrel
  have HB:=zH hb
  have bA:=BA.out.later hb
  have bB:=BB.out.later hb
  have a3:wr.cell? ⟨w.heap.size,3,none⟩=some (.slice A m c):=bA.cell 3
  have b3:wr.cell? ⟨w.heap.size+1,3,none⟩=some (.slice B m d):=bB.cell 3
  have g3:=below_call G2.out hb G2.out.size
  have G3:=zH g3
  by_cases hlt:k < m
  ·have t1:decide ((k:Int) < (m:Int))=true:=by simp;omega
   obtain ⟨b1,o1,rfl,_,_,c1,_⟩:=(H.out.later g3 (Nat.le_refl _)).int_at k hlt
   obtain ⟨b2,o2,rfl,_,_,c2,_⟩:=(H'.out.later g3 (Nat.le_refl _)).int_at k hlt
   generalize t.data.getD k 0=y at *
   have ty:(y != y)=false:=by simp
   have p0:(0:Int)≤(k:Int):=by omega
   have p1:(k:Int) < (m:Int):=by omega
   clear hb bA bB g3 hlt
   go_wp2_with fail
   go_quiet (fail)
   have hq:Below W2.heap.size W2 (wr.drewN nq):=below_drewN HB.out nq
   generalize wr.drewN nq=wq at *
   go_wp2_with fail
   exact ⟨⟨k+1,by omega,by go_num,hq⟩,by simp [intOf];omega⟩
  ·obtain rfl:k=m:=by omega
   have t1:decide ((k:Int) < (k:Int))=false:=by simp
   clear hb bA bB g3 hlt
   go_wp2_with fail
   go_ret
   exact ⟨rfl,G3.out⟩
end Go.Proofs.YtjkmjpjknmghlaaGreat
