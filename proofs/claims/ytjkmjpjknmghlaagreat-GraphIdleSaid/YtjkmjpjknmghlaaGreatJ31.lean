/-
  Sums (layers 16, 17, 10): lane.Of, depth.Of, the document's, whatever the tensor.
  Sums by kind (layer 26): the document's Sum.
  A load of a part of a block, inside a region that draws its order and is walked once (quiet).
  '!=' of two structs in a region that only reads; a literal slice of several structs (laws for the operations).
  Numbers of eight bits that an iterator hands out, gathered (slices.AppendSeq, slices.Collect); those of a window (layer 19).
  The greatest number (layer 19: pool.greatest, slices.Max).
  Two tensors joined (layer 20): the document's Of, the first tensor right.
  Room around a tensor (layer 9): pad.may, the document's May, Pixel, of a tensor that is right.
  Room around a tensor (layer 9): the document's Move, by the same number of rows and columns.
  Room around a tensor (layer 9): the document's Resize, of a tensor that is right.
  Room around a tensor (layer 9): the function of pad.resized.
  Two nodes compared (layer 25): kinds.same.
-/
import Derived.Test.YtjkmjpjknmghlaaGreatJ18
import Derived.Test.YtjkmjpjknmghlaaGreatJ19
import Derived.Test.YtjkmjpjknmghlaaGreatJ30
set_option linter.unusedVariables false
set_option linter.unusedSimpArgs false
namespace Go.Proofs.YtjkmjpjknmghlaaGreat
open Go.RowKit Go.ChangeShapes Go.WideShapes
set_option maxRecDepth 100000
theorem laneOf_any (t:Tensor) (A:Option Addr) (n cap:Nat) (d:Node) (W:Option Addr) (nw cw:Nat) (B:Option Addr) (nb cb:Nat) (w:World) (ht:TensorIn t) (hd:NodeIn d)
  (ha:Sl (tInt .i8) w (blo w.heap.size) A n cap t.data) (hw:Sl (tInt .i8) w (blo w.heap.size) W nw cw d.w) (hb:Sl (tInt .i32) w (blo w.heap.size) B nb cb d.bias) (mw:nw≤2000∧nb≤200) (hk3:d.k=3) (hs1:d.s=1) :
  Calls Tryz.prog 120 #[.agg #[.int .i64 t.h,.int .i64 t.v,.int .i64 t.c,.slice A n cap],.agg (nN d.kind d.a d.b d.k d.s d.p d.out d.za d.zb W nw cw B nb cb d.qm d.qs d.qz d.rm d.rs d.rz d.lo d.hi)] w (RetT .i32 (convOf t d).1 (convOf t d).2 w):=by
 by_cases c1:t.ok=true
 ·by_cases c2:(convV t.h t.v t.c d).2=0
  ·exact laneOf_good t A n cap d W nw cw B nb cb w ht hd ha hw hb mw c1 c2 hk3 hs1
  ·have e:convOf t d=(noTensor,(convV t.h t.v t.c d).2):=by unfold convOf;rw [if_pos c1,if_neg c2]
   rw [e];exact laneOf_code t A n cap d W nw cw B nb cb w ht hd ha hw hb (by omega) c1 c2
 ·have e:convOf t d=(noTensor,5):=by unfold convOf;rw [if_neg c1]
  rw [e];exact laneOf_bad t A n cap d W nw cw B nb cb w ht hd ha hw hb c1
theorem depthOf_any (t:Tensor) (A:Option Addr) (n cap:Nat) (d:Node) (W:Option Addr) (nw cw:Nat) (B:Option Addr) (nb cb:Nat) (w:World) (ht:TensorIn t) (hd:NodeIn d)
  (ha:Sl (tInt .i8) w (blo w.heap.size) A n cap t.data) (hw:Sl (tInt .i8) w (blo w.heap.size) W nw cw d.w) (hb:Sl (tInt .i32) w (blo w.heap.size) B nb cb d.bias) (mw:nw≤2000∧nb≤200) :
  Calls Tryz.prog 122 #[.agg #[.int .i64 t.h,.int .i64 t.v,.int .i64 t.c,.slice A n cap],.agg (nN d.kind d.a d.b d.k d.s d.p d.out d.za d.zb W nw cw B nb cb d.qm d.qs d.qz d.rm d.rs d.rz d.lo d.hi)] w (RetT .i32 (depthOf t d).1 (depthOf t d).2 w):=by
 by_cases c1:t.ok=true
 ·by_cases c2:(depthV t.h t.v t.c d).2=0
  ·exact depthOf_good t A n cap d W nw cw B nb cb w ht hd ha hw hb mw c1 c2
  ·have e:depthOf t d=(noTensor,(depthV t.h t.v t.c d).2):=by unfold depthOf;rw [if_pos c1,if_neg c2]
   rw [e];exact depthOf_code t A n cap d W nw cw B nb cb w ht hd ha hw hb (by omega) c1 c2
 ·have e:depthOf t d=(noTensor,5):=by unfold depthOf;rw [if_neg c1]
  rw [e];exact depthOf_bad t A n cap d W nw cw B nb cb w ht hd ha hw hb c1
set_option maxHeartbeats 4000000
def sumOf (t:Tensor) (d:Node):Tensor × Int:=if d.kind=1 then convOf t d else if d.kind=2 then depthOf t d else if d.kind=3 then denseOf t d else (noTensor,6)
end Go.Proofs.YtjkmjpjknmghlaaGreat
namespace Go.Proofs.YtjkmjpjknmghlaaGreat
open Go Go.RowKit
theorem range_blk {w:World} {g off:Nat} {e:TypeId} {cs:Array Value} {vs:List Value} (hb:Blk w g e cs) (hvs:(cs.toList.drop off).take vs.length=vs):w.rangeAt g off vs:=by
 intro j v hv
 rw [hb.cell]
 rw [← hvs,List.getElem?_take] at hv
 split at hv
 ·rw [List.getElem?_drop] at hv
  simpa using hv
 ·cases hv
theorem range_cells {w:World} {g base off:Nat} {cs:Array Value} {vs:List Value} (hb:∀ j v,cs[j]?=some v → w.cell? ⟨g,base+j,none⟩=some v) (hvs:(cs.toList.drop off).take vs.length=vs):w.rangeAt g (base+off) vs:=by
 intro j v hv
 rw [Nat.add_assoc]
 refine hb _ _ ?_
 rw [← hvs,List.getElem?_take] at hv
 split at hv
 ·rw [List.getElem?_drop] at hv
  simpa using hv
 ·cases hv
theorem wpQuiet_load_mid {P:Program} {ops:Array Oper} {C:World → Prop} {Q:Act → Prop} {a:Act} {o:Oper} {rest:List Oper} (hw:Region.wanted o (yielded ops a.tmps)=true) (ty:TypeId) (x:Operand) (ho:o.op=.load ty x)
  (b off:Nat) (hx:a.eval x=.pointer (some ⟨b,off,none⟩)) (cs:List Value) (d:TypeDesc) (hC:∀ w,C w → w.rangeAt b off cs)
  (hu:P.underlying ty=some d) (hd:d.isRow=true) (hi:(P.info? ty).map (·.size)=some cs.length) (h:wpQuiet P ops C Q rest (a.put o.dst (.agg cs.toArray))):wpQuiet P ops C Q (o :: rest) a :=
 BigFrame.wpQuiet_want hw fun K hK=>⟨.agg cs.toArray,fun w hw'=>by
  unfold Oper.quietAt execOp
  simp only [ho,hx,Instr.loadAt,Instr.sureAddr,Sem.run_bind,Sem.run_pure,Result.andThen_ok,run_loadVar_mid w b off ty cs d (hC w hw') hu hd hi]
  exact ⟨rfl,rfl⟩,hK _ h⟩
end Go.Proofs.YtjkmjpjknmghlaaGreat
namespace Go.Proofs.YtjkmjpjknmghlaaGreat
open Go Go.RowKit
theorem wpQuiet_neq_agg {P:Program} {ops:Array Oper} {C:World → Prop} {Q:Act → Prop} {a:Act} {o:Oper} {rest:List Oper} (hw:Region.wanted o (yielded ops a.tmps)=true) (t u:TypeId) (x y:Operand) (ho:o.op=.binOp .neq t x y u)
  (xs ys:Array Value) (hx:a.eval x=.agg xs) (hy:a.eval y=.agg ys) (hm:P.eqGuardType P.depth t=false) (b:Bool) (hrun:∀ w,(Op.equalIn 10000 t (.agg xs) (.agg ys)).run P w=.ok b w)
  (h:wpQuiet P ops C Q rest (a.put o.dst (.bool (!b)))):wpQuiet P ops C Q (o :: rest) a :=
 BigFrame.wpQuiet_want hw fun K hK=>⟨.bool (!b),fun w hw'=>by
  unfold Oper.quietAt execOp
  simp only [ho,hx,hy,Sem.run_bind,fun w=>run_eqGuard_agg (P:=P) w .neq t x y xs ys hm,run_neq_struct,hrun,Result.andThen_ok,Sem.run_pure]
  exact ⟨rfl,rfl⟩,hK _ h⟩
theorem wpList_load_midw {P:Program} {ops:Array Oper} {rest:List Oper} {o:Oper} {a:Act} {w:World} {Q:Exit → Act → World → Prop} (hw:Region.wanted o (yielded ops a.tmps)=true) (ty:TypeId) (x:Operand) (ho:o.op=.load ty x)
  (b off:Nat) (hx:a.eval x=.pointer (some ⟨b,off,none⟩)) (cs:List Value) (d:TypeDesc) (hC:w.rangeAt b off cs)
  (hu:P.underlying ty=some d) (hd:d.isRow=true) (hi:(P.info? ty).map (·.size)=some cs.length) (h:wpList P ops Q rest (a.put o.dst (.agg cs.toArray)) w):wpList P ops Q (o :: rest) a w:=by
 refine BigFrame.wpList_want hw fun K hK=>?_
 unfold Oper.wp execOp
 simp only [ho,hx,Instr.loadAt,Instr.sureAddr,Sem.run_bind,Sem.run_pure,Result.andThen_ok,run_loadVar_mid w b off ty cs d hC hu hd hi]
 exact hK _ _ h
theorem run_lits {P:Program} {T E:TypeId} {z:Value} {size bytes:Nat} (w:World) (ei:EI P T E z size bytes) (n:Nat) (ps:Array (Nat × Value)) (vs:Array Value) (h0:0 < n*size) (hsm:n*size≤16777216)
  (hf:Instr.fill (fun i=>some (i*size,size)) ((Array.range (n*size)).map (z.cells[· % z.cells.size]!)) ps.toList=some vs) :
  (Instr.buildSlice T n ps).run P w=.ok (.slice (some ⟨w.heap.size,0,none⟩) n n) (w.alloc (.cells vs E)):=by
 obtain ⟨i,hi,hz0,hz1,hz2⟩:=info_parts ei.hi
 have hsz:(sizeOf E).run P w=.ok size w:=by simp [sizeOf,typeInfo,hi,hz1]
 have hzv:(zeroValue E).run P w=.ok z w:=by simp [zeroValue,typeInfo,hi,hz0]
 have hnot:¬ (n*size > 2 ^ 24):=by omega
 have hnz:¬ (n*size=0):=by omega
 unfold Instr.buildSlice
 simp only [Sem.run_bind,run_underlying ei.ht w,Result.andThen_ok,hsz,if_neg hnot,if_neg hnz,hzv,Sem.run_pure,hf,newRow,newObj]
 rfl
section
variable {P:Program} {ops:Array Oper} {rest:List Oper} {o:Oper} {a:Act} {w:World} {Q:Exit → Act → World → Prop} {T E:TypeId} {z:Value} {size bytes:Nat}
theorem rangeAt_later {w w':World} {b off:Nat} {cs:List Value} (h:w.rangeAt b off cs) (hb:Below w.heap.size w w'):w'.rangeAt b off cs:=fun j v hv=>(hb.cell (World.block_lt_of_cell? w _ (h j v hv))).trans (h j v hv)
theorem wpList_lit2 (hgd:o.guard=none) (x y:Operand) (ho:o.op=.buildSlice T 2 #[(0,x),(1,y)]) (ei:EI P T E z size bytes) (u v:Value) (hx:a.eval x=u) (hy:a.eval y=v) (vs:Array Value) (h0:0 < 2*size) (hsm:2*size≤16777216)
  (hf:Instr.fill (fun i=>some (i*size,size)) ((Array.range (2*size)).map (z.cells[· % z.cells.size]!)) [(0,u),(1,v)]=some vs)
  (h:wpList P ops Q rest (a.put o.dst (.slice (some ⟨w.heap.size,0,none⟩) 2 2)) (w.alloc (.cells vs E))):wpList P ops Q (o :: rest) a w:=by
 refine wpList_plain hgd fun K hK=>?_
 unfold Oper.wp execOp
 simp only [ho,List.map_toArray,List.map_cons,List.map_nil,hx,hy,Sem.run_bind,run_lits w ei 2 #[(0,u),(1,v)] vs h0 hsm hf,Sem.run_pure,Result.andThen_ok]
 exact hK _ _ h
end
end Go.Proofs.YtjkmjpjknmghlaaGreat
namespace Go.Proofs.YtjkmjpjknmghlaaGreat
open Go.RowKit Go.Shelf
set_option maxRecDepth 100000
set_option maxHeartbeats 4000000
theorem rows_i8 (w:World) (S:Nat → Prop):∀ xs:List I8,RowsOf (tInt .i8) w S (xs.map fun x=>Value.int .i8 x.1) (xs.map fun x=>x.1)
 | []=>rfl
 | x :: xs=>⟨[Value.int .i8 x.1],xs.map fun x=>Value.int .i8 x.1,rfl,⟨rfl,x.2⟩,rows_i8 w S xs⟩
theorem info_i8:(Tryz.prog.info? 39).map (fun i=>(i.zero,i.size,i.bytes))=some (some (.int .i8 0),1,1):=by kernel_rfl
section
attribute [local go_sem] Oper.semAt_some
theorem append8_in (n gf:Nat) (hn:5≤n) (lb:Array Value) (xs:List I8) (N:Nat) (Sp:List I8 → Prop) (w:World) (hN:N≤1000)
  (eg:∀ args w,(callFunc gf args).run Tryz.prog w=.ok (.enter gf args) w)
  (hseq:SeqStopsK Fence.wide (n - 1) Tryz.prog gf lb e8 (Below w.heap.size) (fun ys=>ys=xs) Sp N w) :
  CallsIn Fence.wide n Tryz.prog 127 #[.slice none 0 0,.func (.func gf) #[] lb] w fun e W'=>∃ v,e=.returned v∧W'.ownsRow w.heap.size 39 1 v xs.length (xs.map fun x=>Value.int .i8 x.1)∧Below w.heap.size w W':=by
 have h1:1≤n:=by omega
 obtain ⟨i0,hi,hz0,hz1,hz2⟩:=info_parts info_i8
 refine callsIn_of_wp_marks Tryz.func127 rfl trivial ?_ rfl
 simp only [Tryz.ntmps127,List.size_toArray,List.length_cons,List.length_nil,Nat.reduceAdd,Nat.reduceSub,Array.replicate_succ,Array.replicate_zero,List.push_toArray,List.append_toArray,List.nil_append,List.cons_append]
 gi_wp2
 have bO:=Boxed.new w 25 (.slice none 0 0)
 have hB0:Below w.heap.size w (w.alloc (.cells #[.slice none 0 0] 25)):=(Below.refl _ w).alloc (Nat.le_refl _) _
 refine wpIn_rangeFunc_ownG rfl h1 (gf:=gf) (lb:=lb) rfl trivial eg
  hseq belowK_t (belowK_b (by simp)) hB0 (fun _=>rfl)
  (fun pre W=>(∃ v,Boxed W w.heap.size 25 v∧W.ownsRow w.heap.size 39 1 v pre.length (pre.map fun x=>Value.int .i8 x.1)∧True)∧Below w.heap.size w W)
  (fun _ _ _=>False)
  (OwnFrom.and (Own.from (holdsRow_own w.heap.size w.heap.size 25 39 1 (fun pre:List I8=>pre.length) (fun pre=>pre.map fun x=>Value.int .i8 x.1) (fun pre v=>True)) _) (ownFrom_below (Nat.le_refl _) (by simp)))
  (fun _ _ _ _ _ hs _ _=>hs)
  ⟨⟨_,bO,World.ownsRow_nil _ _ _ _,trivial⟩,hB0⟩
  (fun x=>{ tmps:=#[.slice none 0 0,.func (.func gf) #[] lb,.pointer (some ⟨w.heap.size,0,none⟩),undef,.slice none 0 0,.int .i8 x.1,.func (.func gf) #[] lb,.int .i8 x.1,undef,undef,undef,undef,undef],defers:=[] }) ?assign ?body ?done ?stop
 case assign =>
  intro l x W K hK
  simp only [e8]
  gi_wp2
  exact hK
 case body =>
  rintro l pre x W ⟨⟨v,hv,hrow,-⟩,hB⟩ hlt
  have hc:=hv.cell
  gi_wp2_with (gi_at_builtin;refine wpListIn_append_own _ rfl _ _ 25 rfl w.heap.size 39 i0 (.int .i8 0) 1 1 Tryz.underlying25 hi hz0 hz1 hz2 rfl (by decide) _ _ _ rfl (hrow.alloc _) ⟨W.heap.size,0,none⟩ 1 1 [.int .i8 x.1] rfl rfl (cell_one_new _ _ _) (by simp [Value.oneCell']) (by unfold maxLen;omega) (by omega) (by have:=hB.size;simp;omega) ?_;intro v' w1 hown' hgrow _;obtain ⟨g',cap',rfl⟩:=ownsRow_succ hown';obtain ⟨hv1,hv2,hr2,hk2,hb2⟩:=hv.appended (by decide) hrow hB.size (Nat.le_refl _) hown' hgrow;have hc1:=hv1.cell;have hf1:=hv1.frozen)
  exact ⟨hk2.from _,hb2,⟨_,hv2,by simpa using hr2,trivial⟩,hB.trans hb2⟩
 case done =>
  rintro D ys W hD rfl ⟨⟨v,hv,hrow,-⟩,hB⟩ hK
  have hc:=hv.cell
  gi_wp2
  refine ⟨by simp,.inl ⟨_,_,rfl,run_takeDeferred hK,?_⟩⟩
  exact ⟨_,results_tmp rfl _ _ _,v,rfl,ownsRow_putObj hrow _ hK rfl,hB.trans (belowK_b (w:=w) (Nat.le_refl _) W D _ _ (by simp at hD;omega) hK rfl rfl)⟩
 case stop =>
  rintro D c pre W _ _ h _
  exact h.elim
end
theorem collect8_any (gf:Nat) (lb:Array Value) (xs:List I8) (N:Nat) (Sp:List I8 → Prop) (w:World) (hN:N≤1000)
  (eg:∀ args w,(callFunc gf args).run Tryz.prog w=.ok (.enter gf args) w)
  (hseq:SeqStopsK Fence.wide 5 Tryz.prog gf lb e8 (Below w.heap.size) (fun ys=>ys=xs) Sp N w) :
  Calls Tryz.prog 109 #[.func (.func gf) #[] lb] w (RetSl (tInt .i8) w (xs.map fun x=>x.1)):=by
 go_enter Tryz.func109,Tryz.ntmps109
 go_wp2_with (go_at_call 127;refine ((callsIn_wide (n:=6)).1 (append8_in 6 gf (by decide) lb xs N Sp w hN eg hseq)).mono ?_;rintro e w2 ⟨v,rfl,hrow,hb⟩)
 go_ret
 have ho:Own (tInt .i8) w2 (fun _=>False) w.heap.size 39 v xs.length (xs.map fun x=>x.1):=⟨_,hrow,rows_i8 _ _ _⟩
 exact ho.ret (by decide) hb (fun _ h=>h.elim)
theorem window_any (H V C:Nat) (A:Option Addr) (n cap:Nat) (l:List Int) (d:Node) (W:Option Addr) (nw cw:Nat) (B:Option Addr) (nb cb:Nat) (K S P y x c:Nat) (w:World)
  (hl:Sl (tInt .i8) w (blo w.heap.size) A n cap l) (hn:n=H*V*C) (hn2:n≤1024) (h1:1≤H∧H≤16) (v1:1≤V∧V≤16) (c1:1≤C∧C≤1024) (he:decide (0 < elems H V C)=true)
  (hk:d.k=K) (hs:d.s=S) (hp:d.p=P) (k1:1≤K∧K≤5) (s1:1≤S∧S≤4) (p1:P≤4) (hy:y≤1000) (hx:x≤1000) (hc:c < C) :
  Calls Tryz.prog 110 #[.agg #[.int .i64 H,.int .i64 V,.int .i64 C,.slice A n cap],.agg (nN d.kind d.a d.b d.k d.s d.p d.out d.za d.zb W nw cw B nb cb d.qm d.qs d.qz d.rm d.rs d.rz d.lo d.hi),.int .i64 y,.int .i64 x,.int .i64 c] w fun e w' =>
   ∃ F,e=.returned F∧Below w.heap.size w w'∧Calls Tryz.prog 109 #[F] w' (RetSl (tInt .i8) w' (winL H V C l K S P c y x (K*K))):=by
 have HL:=zH hl
 have hkk:K*K≤5*5:=Nat.mul_le_mul k1.2 k1.2
 have FR:=zH (Far.refl w)
 obtain ⟨w1,hw_w1,BT,k_w1⟩:=nB w #[.int .i64 H,.int .i64 V,.int .i64 C,.slice A n cap] 27
 replace FR:=zH (FR.out.fut k_w1)
 clear k_w1
 obtain ⟨w2,hw_w2,BN,k_w2⟩:=nB w1 (nN d.kind d.a d.b d.k d.s d.p d.out d.za d.zb W nw cw B nb cb d.qm d.qs d.qz d.rm d.rs d.rz d.lo d.hi) 44
 replace FR:=zH (FR.out.fut k_w2)
 replace BT:=zH (BT.out.fut k_w2)
 clear k_w2
 obtain ⟨w3,hw_w3,BH,k_w3⟩:=nB w2 #[.int .i64 y] 3
 replace FR:=zH (FR.out.fut k_w3)
 replace BT:=zH (BT.out.fut k_w3)
 replace BN:=zH (BN.out.fut k_w3)
 clear k_w3
 obtain ⟨w4,hw_w4,BW,k_w4⟩:=nB w3 #[.int .i64 x] 3
 replace FR:=zH (FR.out.fut k_w4)
 replace BT:=zH (BT.out.fut k_w4)
 replace BN:=zH (BN.out.fut k_w4)
 replace BH:=zH (BH.out.fut k_w4)
 clear k_w4
 obtain ⟨w5,hw_w5,BC,k_w5⟩:=nB w4 #[.int .i64 c] 3
 replace FR:=zH (FR.out.fut k_w5)
 replace BT:=zH (BT.out.fut k_w5)
 replace BN:=zH (BN.out.fut k_w5)
 replace BH:=zH (BH.out.fut k_w5)
 replace BW:=zH (BW.out.fut k_w5)
 clear k_w5
 have q1:w.heap.size < w1.heap.size:=by rw [← hw_w1];simp
 have q2:w1.heap.size < w2.heap.size:=by rw [← hw_w2];simp
 have q3:w2.heap.size < w3.heap.size:=by rw [← hw_w3];simp
 have q4:w3.heap.size < w4.heap.size:=by rw [← hw_w4];simp
 have q5:w4.heap.size < w5.heap.size:=by rw [← hw_w5];simp
 have s5:=zH ((Old.now HL.out).fut FR.out.out).all
 have WS:=zH (win1_stops H V C A n cap l d W nw cw B nb cb K S P y x c w1.heap.size w.heap.size w2.heap.size w3.heap.size w4.heap.size w5.heap.size 5 w5 s5.out hn hn2 h1 v1 c1 he hk hs hp k1 s1 p1 hy hx hc BN.out BT.out BH.out BW.out BC.out ⟨by omega,by omega,by omega,by omega,by omega⟩ (Nat.le_refl _) (by decide))
 clear hn hk hs hp he hl
 go_enter Tryz.func110,Tryz.ntmps110
 go_wp2_with fail
 go_ret
 refine ⟨_,rfl,FR.out.out,?_⟩
 refine (collect8_any 128 #[.pointer (some ⟨w1.heap.size,0,none⟩),.pointer (some ⟨w.heap.size,0,none⟩),.pointer (some ⟨w2.heap.size,0,none⟩),.pointer (some ⟨w3.heap.size,0,none⟩),.pointer (some ⟨w4.heap.size,0,none⟩)] (winX H V C l s5.out.allK K S P c y x (K*K)) (K*K) (fun _=>True) w5 (by omega) (enters_of Tryz.func128 (by kernel_rfl) rfl) WS.out).mono ?_
 intro e w6 h
 rw [winX_map] at h
 exact h
end Go.Proofs.YtjkmjpjknmghlaaGreat
namespace Go.Proofs.YtjkmjpjknmghlaaGreat
open Go.RowKit Go.ChangeShapes Go.WideShapes Fx
set_option maxRecDepth 100000
set_option maxHeartbeats 4000000
theorem hiN_one (l:List Int):hiN l 1=l.getD 0 0:=by
 show (if hiN l 0 < l.getD 0 0 then l.getD 0 0 else hiN l 0)=_
 split
 ·rfl
 ·rfl
theorem max8_any (A:Option Addr) (n cap:Nat) (l:List Int) (w:World) (hl:Sl (tInt .i8) w (blo w.heap.size) A n cap l) (hn:n≤1024) (h1:1≤n) :
  Calls Tryz.prog 111 #[.slice A n cap] w fun e w'=>e=.returned (.int .i8 (hiN l n))∧w=w':=by
 have H:=zH hl
 clear hl
 obtain ⟨b,o,rfl,-,-,c0,i0⟩:=H.out.int_at 0 (by omega)
 rw [Nat.add_zero] at c0
 have t1:¬ (n:Int) < 1:=by omega
 have H0:=zH (hiN_one l)
 obtain ⟨x0,hx0⟩:∃ x,l.getD 0 0=x:=⟨_,rfl⟩
 rw [hx0] at c0 i0 H0
 clear hx0
 go_enter Tryz.func111,Tryz.ntmps111
 go_wp2_with fail
 clear c0
 go_loopw [3,4] (fun v ii wr=>∃ k:Nat,k≤n∧1≤k∧ii=.int .i64 k∧v=.int .i8 (hiN l k)∧w=wr) (fun _ ii _=>n - (intOf ii).toNat)
 case atStart=>exact ⟨1,h1,Nat.le_refl _,rfl,by rw [H0.out],rfl⟩
 case round =>
  obtain ⟨k,hk,hk1,rfl,rfl,rfl⟩:=hrel
  by_cases hlt:k < n
  ·have p1:(k:Int) < (n:Int):=by omega
   obtain ⟨b',o',e',-,-,cx,ix⟩:=H.out.int_at k hlt
   simp only [Option.some.injEq,Addr.mk.injEq,and_true] at e'
   obtain ⟨rfl,rfl⟩:=e'
   have HS:=zH (show hiN l (k+1)=if hiN l k < l.getD k 0 then l.getD k 0 else hiN l k from rfl)
   obtain ⟨x,hx⟩:∃ x,l.getD k 0=x:=⟨_,rfl⟩
   rw [hx] at cx ix HS
   clear hx
   go_wp2_with fail
   exact ⟨⟨k+1,by omega,by omega,by go_num,by rw [HS.out],by trivial⟩,by simp [intOf];omega⟩
  ·obtain rfl:k=n:=by omega
   go_wp2_with fail
   go_ret
   exact ⟨rfl,by trivial⟩
theorem greatest_any (A:Option Addr) (n cap:Nat) (l:List Int) (w:World) (hl:Sl (tInt .i8) w (blo w.heap.size) A n cap l) (hn:n≤1024) (h1:1≤n) :
  Calls Tryz.prog 80 #[.slice A n cap] w fun e w'=>e=.returned (.int .i8 (hiN l n))∧w=w':=by
 go_enter Tryz.func80,Tryz.ntmps80
 go_wp2_with (go_at_call 111;refine (max8_any A n cap l _ hl hn h1).mono ?_;rintro e w2 ⟨rfl,rfl⟩)
 go_ret
 exact ⟨rfl,rfl⟩
end Go.Proofs.YtjkmjpjknmghlaaGreat
namespace Go.Proofs.YtjkmjpjknmghlaaGreat
open Go.RowKit Go.ChangeShapes Go.WideShapes Fx
set_option maxRecDepth 100000
set_option maxHeartbeats 8000000
def joinQ (a b:Tensor) (d:Node):Tensor × Int:=if b.ok=false then (noTensor,5) else if ([a.h,a.v,a.c] == [b.h,b.v,b.c])=false then (noTensor,5) else if quantOk d.qm d.qs=false then (noTensor,7) else if quantOk d.rm d.rs=false then (noTensor,7)
 else (⟨a.h,a.v,a.c,(List.range a.data.length).map fun i=>joinV d (a.data.getD i 0) (b.data.getD i 0)⟩,0)
end Go.Proofs.YtjkmjpjknmghlaaGreat
namespace Go.Proofs.YtjkmjpjknmghlaaGreat
open Go.RowKit Go.ChangeShapes Go.WideShapes Fx
set_option maxRecDepth 100000
set_option maxHeartbeats 4000000
theorem padMay_any (t:Tensor) (A:Option Addr) (n cap:Nat) (p:Int) (w:World) (ht:TensorIn t) (ha:Sl (tInt .i8) w (blo w.heap.size) A n cap t.data) (c1:t.ok=true) :
  Calls Tryz.prog 87 #[.agg #[.int .i64 t.h,.int .i64 t.v,.int .i64 t.c,.slice A n cap],.int .i64 p] w fun e w'=>e=.returned (.int .i64 (if p < 0 ∨ 4 < p then 2 else 0))∧Below w.heap.size w w':=by
 have c1':decide (0 < elems t.h t.v t.c∧elems t.h t.v t.c=n)=true:=by rw [← ha.n_eq];simpa [Tensor.ok] using c1
 have RI:=zH (fun w=>tensorRight_any t.h t.v t.c A n cap w ht.h ht.v ht.c (Nat.le_trans ha.cap_le ha.max_le))
 rw [c1'] at RI
 have FR:=zH (Far.refl w)
 obtain ⟨w1,hw_w1,BA,k_w1⟩:=nB w #[.int .i64 t.h,.int .i64 t.v,.int .i64 t.c,.slice A n cap] 27
 replace FR:=zH (FR.out.fut k_w1)
 clear k_w1
 clear ht ha c1 c1'
 by_cases a1:p < 0
 ·rw [if_pos (.inl a1)]
  go_enter Tryz.func87,Tryz.ntmps87
  go_wp2_with (first|(refine lB 27 (.tmp 2) w.heap.size BA.out Tryz.underlying27 ?_)|(go_at_call 13;refine (RI.out _).mono ?_;rintro e w4 ⟨rfl,hb⟩;replace FR:=zH (FR.out.fut hb);clear hb hw_w1))
  go_ret
  exact ⟨rfl,FR.out.out⟩
 ·by_cases a2:4 < p
  ·rw [if_pos (.inr a2)]
   go_enter Tryz.func87,Tryz.ntmps87
   go_wp2_with (first|(refine lB 27 (.tmp 2) w.heap.size BA.out Tryz.underlying27 ?_)|(go_at_call 13;refine (RI.out _).mono ?_;rintro e w4 ⟨rfl,hb⟩;replace FR:=zH (FR.out.fut hb);clear hb hw_w1))
   go_ret
   exact ⟨rfl,FR.out.out⟩
  ·rw [if_neg (by omega)]
   go_enter Tryz.func87,Tryz.ntmps87
   go_wp2_with (first|(refine lB 27 (.tmp 2) w.heap.size BA.out Tryz.underlying27 ?_)|(go_at_call 13;refine (RI.out _).mono ?_;rintro e w4 ⟨rfl,hb⟩;replace FR:=zH (FR.out.fut hb);clear hb hw_w1))
   go_ret
   exact ⟨rfl,FR.out.out⟩
end Go.Proofs.YtjkmjpjknmghlaaGreat
namespace Go.Proofs.YtjkmjpjknmghlaaGreat
open Go.RowKit Go.ChangeShapes Go.WideShapes Fx
set_option maxRecDepth 100000
set_option maxHeartbeats 8000000
def pixV (H V C:Nat) (l:List Int) (y x:Int) (c:Nat) (z:Int):Int:=if inside H V y x then l.getD (placeV V C y x c) 0 else z
def padF (H V C:Nat) (l:List Int) (p:Nat) (z:Int) (Wo i:Nat):Int:=pixV H V C l ((i / C / Wo:Nat) - (p:Int)) ((i / C % Wo:Nat) - (p:Int)) (i % C) z
theorem pixV_in {H V C:Nat} {l:List Int} {y x:Int} {c:Nat} {z:Int} (hl:∀ i,InK .i8 (l.getD i 0)) (hz:InK .i8 z):InK .i8 (pixV H V C l y x c z):=by
 unfold pixV
 split
 ·exact hl _
 ·exact hz
end Go.Proofs.YtjkmjpjknmghlaaGreat
namespace Go.Proofs.YtjkmjpjknmghlaaGreat
open Go.RowKit Go.ChangeShapes Go.WideShapes Fx
set_option maxRecDepth 100000
set_option maxHeartbeats 4000000
def padQ (t:Tensor) (p:Nat) (z:Int):Tensor × Int:=if elems (t.h+2*p) (t.v+2*p) t.c=0 then (noTensor,5)
 else (⟨t.h+2*p,t.v+2*p,t.c,(List.range (elems (t.h+2*p) (t.v+2*p) t.c).toNat).map (padF t.h.toNat t.v.toNat t.c.toNat t.data p z (t.v.toNat+2*p))⟩,0)
end Go.Proofs.YtjkmjpjknmghlaaGreat
namespace Go.Proofs.YtjkmjpjknmghlaaGreat
open Go.RowKit Go.ChangeShapes Go.WideShapes Fx
set_option maxRecDepth 100000
set_option maxHeartbeats 4000000
theorem padFrom_any (a:Addr) (h x p:Int) (w:World) (hp:w.cell? a=some (.int .i64 p)) (b1:-1000≤h∧h≤1000) (b2:-1000≤x∧x≤1000) (b3:-4≤p∧p≤4) :
  Calls Tryz.prog 118 #[.int .i64 h,.int .i64 x,.pointer (some a)] w fun e w'=>e=.returned (.tuple #[.int .i64 (h - p),.int .i64 (x - p)])∧Below w.heap.size w w':=by
 obtain ⟨c1,c2⟩:=b1
 obtain ⟨c3,c4⟩:=b2
 obtain ⟨c5,c6⟩:=b3
 go_enter Tryz.func118,Tryz.ntmps118
 go_wp2_with fail
 go_quiet (fail)
 go_wp2_with fail
 go_ret2
 exact ⟨rfl,below_drewN (Below.refl _ _) _⟩
end Go.Proofs.YtjkmjpjknmghlaaGreat
namespace Go.Proofs.YtjkmjpjknmghlaaGreat
open Go.RowKit Go.ChangeShapes Go.WideShapes
set_option maxRecDepth 100000
set_option maxHeartbeats 64000000 in
theorem same_bools (y8 y32 x8 x4 xq xr:Bool) (kind a b k s p out za zb qm qs qz rm rs rz lo hi:Int) (kind' a' b' k' s' p' out' za' zb' qm' qs' qz' rm' rs' rz' lo' hi':Int) (wl bl wl' bl':List Int) (W:Option Addr) (nw cw:Nat) (B:Option Addr) (nb cb:Nat) (W':Option Addr) (nw' cw':Nat) (B':Option Addr) (nb' cb':Nat) (w:World)
  (hw:Sl (tInt .i8) w (blo w.heap.size) W nw cw wl) (hb:Sl (tInt .i32) w (blo w.heap.size) B nb cb bl) (hw':Sl (tInt .i8) w (blo w.heap.size) W' nw' cw' wl') (hb':Sl (tInt .i32) w (blo w.heap.size) B' nb' cb' bl')
  (g8:decide (wl=wl')=y8) (g32:decide (bl=bl')=y32) (f8:([kind,a,b,k,s,p,out,0] == [kind',a',b',k',s',p',out',0])=x8) (f4:([za,zb,lo,hi] == [za',zb',lo',hi'])=x4) (fq:([qm,qs,qz] == [qm',qs',qz'])=xq) (fr:([rm,rs,rz] == [rm',rs',rz'])=xr) :
  Calls Tryz.prog 70 #[.agg (nN kind a b k s p out za zb W nw cw B nb cb qm qs qz rm rs rz lo hi),.agg (nN kind' a' b' k' s' p' out' za' zb' W' nw' cw' B' nb' cb' qm' qs' qz' rm' rs' rz' lo' hi')] w fun e w'=>e=.returned (.bool (y8 && y32 && x8 && x4 && xq && xr))∧Below w.heap.size w w':=by
 have FR:=zH (Far.refl w)
 have HW:=zH hw
 have HB:=zH hb
 have HW':=zH hw'
 have HB':=zH hb'
 have Q8:=zH (fun w=>run_eql_arr8 (P:=Tryz.prog) (t:=142) (e:=3) (k:=.i64) w Tryz.underlying142 Tryz.underlying3 (by kernel_rfl) (by kernel_rfl) kind a b k s p out 0 kind' a' b' k' s' p' out' 0)
 have Q4:=zH (fun w=>run_eql_arr4 (P:=Tryz.prog) (t:=143) (e:=39) (k:=.i8) w Tryz.underlying143 Tryz.underlying39 (by kernel_rfl) (by kernel_rfl) za zb lo hi za' zb' lo' hi')
 have QQ:=zH (fun w=>run_eql_st3 (P:=Tryz.prog) (t:=42) (k0:=.i32) (k1:=.i64) (k2:=.i8) w Tryz.underlying42 (by kernel_rfl) (by decide) ⟨rfl,rfl,rfl⟩ Tryz.underlying21 Tryz.underlying3 Tryz.underlying39 (by kernel_rfl) (by kernel_rfl) (by kernel_rfl) qm qs qz qm' qs' qz')
 have QR:=zH (fun w=>run_eql_st3 (P:=Tryz.prog) (t:=42) (k0:=.i32) (k1:=.i64) (k2:=.i8) w Tryz.underlying42 (by kernel_rfl) (by decide) ⟨rfl,rfl,rfl⟩ Tryz.underlying21 Tryz.underlying3 Tryz.underlying39 (by kernel_rfl) (by kernel_rfl) (by kernel_rfl) rm rs rz rm' rs' rz')
 clear hw hb hw' hb'
 obtain ⟨w1,hw_w1,BN,k_w1⟩:=nB w (nN kind a b k s p out za zb W nw cw B nb cb qm qs qz rm rs rz lo hi) 44
 replace FR:=zH (FR.out.fut k_w1)
 replace HW:=zH (HW.out.fut k_w1)
 replace HB:=zH (HB.out.fut k_w1)
 replace HW':=zH (HW'.out.fut k_w1)
 replace HB':=zH (HB'.out.fut k_w1)
 clear k_w1
 obtain ⟨w2,hw_w2,BM,k_w2⟩:=nB w1 (nN kind' a' b' k' s' p' out' za' zb' W' nw' cw' B' nb' cb' qm' qs' qz' rm' rs' rz' lo' hi') 44
 replace FR:=zH (FR.out.fut k_w2)
 replace HW:=zH (HW.out.fut k_w2)
 replace HB:=zH (HB.out.fut k_w2)
 replace HW':=zH (HW'.out.fut k_w2)
 replace HB':=zH (HB'.out.fut k_w2)
 replace BN:=zH (BN.out.fut k_w2)
 clear k_w2
 have E8:=zH (fun v (hb:Below w2.heap.size w2 v)=>equal8_any W W' nw cw nw' cw' wl wl' v (HW.out.fut hb) (HW'.out.fut hb))
 have E32:=zH (fun v (hb:Below w2.heap.size w2 v)=>equal32_any B B' nb cb nb' cb' bl bl' v (HB.out.fut hb) (HB'.out.fut hb))
 rw [g8] at E8
 rw [g32] at E32
 rw [f8] at Q8
 rw [f4] at Q4
 rw [fq] at QQ
 rw [fr] at QR
 clear g8 g32 f8 f4 fq fr HW HB HW' HB'

 have ways:(y8=false) ∨ (y8=true∧y32=false) ∨ (y8=true∧y32=true∧x8=false) ∨ (y8=true∧y32=true∧x8=true∧x4=false) ∨ (y8=true∧y32=true∧x8=true∧x4=true∧xq=false) ∨ (y8=true∧y32=true∧x8=true∧x4=true∧xq=true∧xr=false) ∨ (y8=true∧y32=true∧x8=true∧x4=true∧xq=true∧xr=true):=by cases y8 <;> cases y32 <;> cases x8 <;> cases x4 <;> cases xq <;> cases xr <;> simp
 rcases ways with rfl|⟨rfl,rfl⟩|⟨rfl,rfl,rfl⟩|⟨rfl,rfl,rfl,rfl⟩|⟨rfl,rfl,rfl,rfl,rfl⟩|⟨rfl,rfl,rfl,rfl,rfl,rfl⟩|⟨rfl,rfl,rfl,rfl,rfl,rfl⟩
 all_goals
  have cN9:=BN.out.cell 9
  have cM9:=BM.out.cell 9
  go_enter Tryz.func70,Tryz.ntmps70
  go_wp2_with fail
  refine (E8.out _ (Below.refl _ _)).mono ?_
  rintro e w3 ⟨rfl,b3⟩
  have K3:=zH b3
  replace FR:=zH (FR.out.fut b3)
  replace BN:=zH (BN.out.fut b3)
  replace BM:=zH (BM.out.fut b3)
  clear b3 cN9 cM9 hw_w1 hw_w2
  try (have cN10:=BN.out.cell 10;have cM10:=BM.out.cell 10;go_wp2_with fail;refine (E32.out _ K3.out).mono ?_;rintro e w4 ⟨rfl,b4⟩;replace FR:=zH (FR.out.fut b4);replace BN:=zH (BN.out.fut b4);replace BM:=zH (BM.out.fut b4);clear b4 cN10 cM10)
  clear K3 E8 E32
  have cN0:=BN.out.cell 0
  have cM0:=BM.out.cell 0
  have cN1:=BN.out.cell 1
  have cM1:=BM.out.cell 1
  have cN2:=BN.out.cell 2
  have cM2:=BM.out.cell 2
  have cN3:=BN.out.cell 3
  have cM3:=BM.out.cell 3
  have cN4:=BN.out.cell 4
  have cM4:=BM.out.cell 4
  have cN5:=BN.out.cell 5
  have cM5:=BM.out.cell 5
  have cN6:=BN.out.cell 6
  have cM6:=BM.out.cell 6
  have cN7:=BN.out.cell 7
  have cM7:=BM.out.cell 7
  have cN8:=BN.out.cell 8
  have cM8:=BM.out.cell 8
  have cN11:=BN.out.cell 11
  have cM11:=BM.out.cell 11
  have cN12:=BN.out.cell 12
  have cM12:=BM.out.cell 12
  have cN13:=BN.out.cell 13
  have cM13:=BM.out.cell 13
  have cN14:=BN.out.cell 14
  have cM14:=BM.out.cell 14
  have cN15:=BN.out.cell 15
  have cM15:=BM.out.cell 15
  have cN16:=BN.out.cell 16
  have cM16:=BM.out.cell 16
  have cN17:=BN.out.cell 17
  have cM17:=BM.out.cell 17
  have cN18:=BN.out.cell 18
  have cM18:=BM.out.cell 18
  go_wp2_with (first
   | (refine wpList_eql_agg 142 _ (.tmp 34) (.tmp 49) rfl _ _ rfl rfl (by rfl) (by kernel_rfl) _ (Q8.out _) ?_)
   | (refine wpList_eql_agg 143 _ (.tmp 59) (.tmp 68) rfl _ _ rfl rfl (by rfl) (by kernel_rfl) _ (Q4.out _) ?_)
   | (refine wpList_eql_agg 42 _ (.tmp 79) (.tmp 81) rfl _ _ rfl rfl (by rfl) (by kernel_rfl) _ (QQ.out _) ?_)
   | (refine wpList_eql_agg 42 _ (.tmp 86) (.tmp 88) rfl _ _ rfl rfl (by rfl) (by kernel_rfl) _ (QR.out _) ?_))
  go_ret
  exact ⟨rfl,FR.out.out⟩
end Go.Proofs.YtjkmjpjknmghlaaGreat
