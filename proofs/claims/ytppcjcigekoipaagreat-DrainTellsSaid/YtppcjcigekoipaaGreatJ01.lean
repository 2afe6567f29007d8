/-
  A region that draws its order and whose operations read, or call what only makes memory: one walk of the text's order serves every order (the kit's theorem on quiet regions, at the class 'old memory is as it was').
  Nodes, tensors and sums as Lean data; an argument of these types opened.
  'append(l, r...)' where l is the call's own and r a slice of whole numbers.
  An empty row of a call's own.
  A load of a part of a block, inside a region that draws its order and is walked once (quiet).
  An append to a slice of the call's own, as an operation by itself (in a region that draws its order).
  A region that ends in a forced tail: an operation that the tail's first waits for by way of another.
  The elements of an []int.
  Points as Lean data; arguments of that type opened.
  Rows of whole numbers: where a number stands, and whether it does (the library's and the document's).
  slices.Concat of two rows of whole numbers, and ring.joined.
-/
import Derived.Test.YtppcjcigekoipaaGreatJ00
import Derived.Test.YtppcjcigekoipaaGreatChecked
import Derived.Laws.AppendOwnNone
import Derived.Lib.AppendZeros
set_option linter.unusedVariables false
set_option linter.unusedSimpArgs false
namespace Go.Proofs.YtppcjcigekoipaaGreat
open Go.RowKit
def Ext (w0:World):Type:={ w:World // Below w0.heap.size w0 w }
def Ext.here (w0:World):Ext w0:=⟨w0,Below.refl _ _⟩
instance (w0:World):Nonempty (Ext w0):=⟨Ext.here w0⟩
section
variable {P:Program} {w0:World}
theorem wp_region_ext {id:Nat} {Q:Exit → Act → World → Prop} {a:Act} {w:World} {l:List Oper} (w0:World) (hm:P.follows .mixedOrders=true) (hB:Region.lexB .any l.toArray=true) (h0:Below w0.heap.size w0 w)
  (h:wpQuiet P l.toArray (fun w'=>∃ x:Ext w0,w'=x.1) (fun a'=>∀ w',(∃ x:Ext w0,w'=x.1) → Q .normal a' w') l a):(Code.region id l.toArray true).wp P Q a w :=
 wp_region_quiet (C:=fun w'=>∃ x:Ext w0,w'=x.1) hm hB ⟨⟨w.drew,h0.drew⟩,rfl⟩ (by simpa using h)
theorem calls_ext {f:FuncId} {args:Array Value} {v:Value} (x:Ext w0) (h:Calls P f args x.1 fun e w'=>e=.returned v∧Below x.1.heap.size x.1 w') :
  Calls P f args x.1 fun e w''=>e=.returned v∧∃ y:Ext w0,w''=y.1 :=
 h.mono fun e w' ⟨he,hb⟩=>⟨he,⟨w',x.2.trans (hb.mono x.2.size)⟩,rfl⟩
theorem ext_cell {p:Addr} {v:Value} (h:w0.cell? p=some v) (x:Ext w0):x.1.cell? p=some v:=(x.2.cell (World.block_lt_of_cell? w0 _ h)).trans h
theorem Blk.ext {g:Nat} {e:TypeId} {cs:Array Value} (h:Blk w0 g e cs) (x:Ext w0):Blk x.1 g e cs:=h.later x.2
end
end Go.Proofs.YtppcjcigekoipaaGreat
namespace Go.Proofs.YtppcjcigekoipaaGreat
open Go.RowKit Go.ChangeShapes Go.WideShapes
set_option maxRecDepth 100000
structure Node where
 kind:Int
 a:Int
 b:Int
 k:Int
 s:Int
 p:Int
 out:Int
 za:Int
 zb:Int
 w:List Int
 bias:List Int
 qm:Int
 qs:Int
 qz:Int
 rm:Int
 rs:Int
 rz:Int
 lo:Int
 hi:Int
structure NodeIn (d:Node):Prop where
 kind:InK .i64 d.kind
 a:InK .i64 d.a
 b:InK .i64 d.b
 k:InK .i64 d.k
 s:InK .i64 d.s
 p:InK .i64 d.p
 out:InK .i64 d.out
 za:InK .i8 d.za
 zb:InK .i8 d.zb
 qm:InK .i32 d.qm
 qs:InK .i64 d.qs
 qz:InK .i8 d.qz
 rm:InK .i32 d.rm
 rs:InK .i64 d.rs
 rz:InK .i8 d.rz
 lo:InK .i8 d.lo
 hi:InK .i8 d.hi
abbrev NodeP:=Int × Int × Int × Int × Int × Int × Int × Int × Int × List Int × List Int × (Int × Int × Int) × (Int × Int × Int) × Int × Int
def nodeOf:NodeP → Node:=fun (kind,a,b,k,s,p,out,za,zb,w,bias,(qm,qs,qz),(rm,rs,rz),lo,hi)=>{ kind,a,b,k,s,p,out,za,zb,w,bias,qm,qs,qz,rm,rs,rz,lo,hi }
def tQuant:Ty (Int × Int × Int):=tPair (tInt .i32) (tPair (tInt .i64) (tInt .i8))
def tNodeP:Ty NodeP:=tPair (tInt .i64) (tPair (tInt .i64) (tPair (tInt .i64) (tPair (tInt .i64) (tPair (tInt .i64) (tPair (tInt .i64) (tPair (tInt .i64) (tPair (tInt .i8) (tPair (tInt .i8)
 (tPair (tSlice (tInt .i8)) (tPair (tSlice (tInt .i32)) (tPair tQuant (tPair tQuant (tPair (tInt .i8) (tInt .i8))))))))))))))
def tNode:Ty Node:=tMap nodeOf tNodeP
theorem node_open {w:World} {S:Nat → Prop} {cs:List Value} {d:Node} (h:tNode.rep w S cs d) :
  ∃ W nw cw B nb cb,cs=[.int .i64 d.kind,.int .i64 d.a,.int .i64 d.b,.int .i64 d.k,.int .i64 d.s,.int .i64 d.p,.int .i64 d.out,.int .i8 d.za,.int .i8 d.zb,.slice W nw cw,.slice B nb cb,.int .i32 d.qm,.int .i64 d.qs,.int .i8 d.qz,.int .i32 d.rm,.int .i64 d.rs,.int .i8 d.rz,.int .i8 d.lo,.int .i8 d.hi]∧NodeIn d∧Sl (tInt .i8) w S W nw cw d.w∧Sl (tInt .i32) w S B nb cb d.bias:=by
 obtain ⟨⟨kind,a,b,k,s,p,out,za,zb,wl,bias,⟨qm,qs,qz⟩,⟨rm,rs,rz⟩,lo,hi⟩,rfl,h⟩:=h
 obtain ⟨_,_,rfl,⟨rfl,h1⟩,_,_,rfl,⟨rfl,h2⟩,_,_,rfl,⟨rfl,h3⟩,_,_,rfl,⟨rfl,h4⟩,_,_,rfl,⟨rfl,h5⟩,_,_,rfl,⟨rfl,h6⟩,_,_,rfl,⟨rfl,h7⟩,_,_,rfl,⟨rfl,h8⟩,_,_,rfl,⟨rfl,h9⟩,
  _,_,rfl,hw,_,_,rfl,hbi,_,_,rfl,⟨_,_,rfl,⟨rfl,h10⟩,_,_,rfl,⟨rfl,h11⟩,rfl,h12⟩,_,_,rfl,⟨_,_,rfl,⟨rfl,h13⟩,_,_,rfl,⟨rfl,h14⟩,rfl,h15⟩,_,_,rfl,⟨rfl,h16⟩,rfl,h17⟩:=h
 obtain ⟨W,cw,rfl,hw'⟩:=tSlice_iff.1 hw
 obtain ⟨B,cb,rfl,hb'⟩:=tSlice_iff.1 hbi
 exact ⟨W,_,cw,B,_,cb,rfl,⟨h1,h2,h3,h4,h5,h6,h7,h8,h9,h10,h11,h12,h13,h14,h15,h16,h17⟩,hw',hb'⟩
/-! ### Tensors -/
structure Tensor where
 h:Int
 v:Int
 c:Int
 data:List Int
structure TensorIn (t:Tensor):Prop where
 h:InK .i64 t.h
 v:InK .i64 t.v
 c:InK .i64 t.c
def tShape:Ty (Int × Int × Int):=tPair (tInt .i64) (tPair (tInt .i64) (tInt .i64))
def tensorOf (k:IntKind):Ty Tensor:=tMap (fun (x:(Int × Int × Int) × List Int)=>⟨x.1.1,x.1.2.1,x.1.2.2,x.2⟩) (tPair tShape (tSlice (tInt k)))
def tTensor:Ty Tensor:=tensorOf .i8
theorem tensor_open {k:IntKind} {w:World} {S:Nat → Prop} {cs:List Value} {t:Tensor} (h:(tensorOf k).rep w S cs t) :
  ∃ A n cap,cs=[.int .i64 t.h,.int .i64 t.v,.int .i64 t.c,.slice A n cap]∧TensorIn t∧Sl (tInt k) w S A n cap t.data:=by
 obtain ⟨⟨⟨a,b,c⟩,l⟩,rfl,_,_,rfl,⟨_,_,rfl,⟨rfl,h1⟩,_,_,rfl,⟨rfl,h2⟩,rfl,h3⟩,hs⟩:=h
 obtain ⟨A,cap,rfl,hs'⟩:=tSlice_iff.1 hs
 exact ⟨A,_,cap,rfl,⟨h1,h2,h3⟩,hs'⟩
def RetT (k:IntKind) (x:Tensor) (code:Int) (w:World) (e:Ending) (w':World):Prop :=
 ∃ A n cap,e=.returned (.tuple #[.agg (tN x.h x.v x.c A n cap),.int .i64 code])∧Sl (tInt k) w' (bin w.heap.size w'.heap.size) A n cap x.data∧Below w.heap.size w w'
def noTensor:Tensor:=⟨0,0,0,[]⟩
theorem RetT.none {k:IntKind} {code:Int} {w w':World} (hb:Below w.heap.size w w'):RetT k noTensor code w (.returned (.tuple #[.agg (tN 0 0 0 none 0 0),.int .i64 code])) w' :=
 ⟨Option.none,0,0,rfl,Sl.nil _ _ _,hb⟩
theorem opens_i8s:Opens Tryz.prog 44 (tSlice (tInt .i8)):=opens_slice Tryz.underlying44 (by kernel_rfl) (by decide) (opens_int Tryz.underlying83 (by kernel_rfl))
theorem opens_i32s:Opens Tryz.prog 45 (tSlice (tInt .i32)):=opens_slice Tryz.underlying45 (by kernel_rfl) (by decide) (opens_int Tryz.underlying21 (by kernel_rfl))
theorem opens_i64:Opens Tryz.prog 3 (tInt .i64):=opens_int Tryz.underlying3 (by kernel_rfl)
theorem opens_i8:Opens Tryz.prog 83 (tInt .i8):=opens_int Tryz.underlying83 (by kernel_rfl)
theorem opens_i32:Opens Tryz.prog 21 (tInt .i32):=opens_int Tryz.underlying21 (by kernel_rfl)
theorem opens_shape:Opens Tryz.prog 23 tShape:=opens_struct Tryz.underlying23 (by kernel_rfl) (opensFrom_cons rfl opens_i64 (opensFrom_cons rfl opens_i64 (opensFrom_last rfl opens_i64)))
theorem opens_quant:Opens Tryz.prog 85 tQuant:=opens_struct Tryz.underlying85 (by kernel_rfl) (opensFrom_cons rfl opens_i32 (opensFrom_cons rfl opens_i64 (opensFrom_last rfl opens_i8)))
theorem opens_node:Opens Tryz.prog 87 tNode:=opens_map _ (opens_struct Tryz.underlying87 (by kernel_rfl)
 (opensFrom_cons rfl opens_i64 (opensFrom_cons rfl opens_i64 (opensFrom_cons rfl opens_i64 (opensFrom_cons rfl opens_i64 (opensFrom_cons rfl opens_i64 (opensFrom_cons rfl opens_i64 (opensFrom_cons rfl opens_i64 (opensFrom_cons rfl opens_i8 (opensFrom_cons rfl opens_i8
 (opensFrom_cons rfl opens_i8s (opensFrom_cons rfl opens_i32s (opensFrom_cons rfl opens_quant (opensFrom_cons rfl opens_quant (opensFrom_cons rfl opens_i8 (opensFrom_last rfl opens_i8))))))))))))))))
theorem Sl.inAll {k:IntKind} {w:World} {S:Nat → Prop} {A:Option Addr} {n cap:Nat} {l:List Int} (h:Sl (tInt k) w S A n cap l):∀ x ∈ l,InK k x:=by
 intro x hx
 obtain ⟨j,hj,rfl⟩:=List.getElem_of_mem hx
 have:=h.allK j
 rwa [List.getD_eq_getElem?_getD,List.getElem?_eq_getElem hj] at this
section
variable {P:Program} {ops:Array Oper} {rest:List Oper} {o:Oper} {a:Act} {Q:Exit → Act → World → Prop} {T E:TypeId} {z:Value} {bytes base n m c:Nat} {v:Value} {k:IntKind} {l l2:List Int} {A:Option Addr} {S:Nat → Prop}
theorem wpList_extend {W:World} (hgd:o.guard=none) (s x:Operand) (ho:o.op=.call { callee:=.builtin .append,args:=#[s,x],argTypes:=#[T,T] }) (ei:EI P T E z 1 bytes)
  (hs:a.eval s=v) (own:Own (tInt k) W (fun _=>False) base E v n l) (hx:a.eval x=.slice A m c) (sl:Sl (tInt k) W S A m c l2)
  (h63:n+m≤maxLen) (hbytes:(n+m)*bytes≤140737488355328) (hbase:base≤W.heap.size)
  (h:∀ v' w',Own (tInt k) w' (fun _=>False) base E v' (n+m) (l ++ l2) → W.grownBy w' v.ownBlock → (v'.ownBlock=v.ownBlock ∨ v'.ownBlock=some W.heap.size) → wpList P ops Q rest (a.put o.dst v') w') :
  wpList P ops Q (o :: rest) a W:=by
 obtain ⟨i,hi,hz0,hz1,hz2⟩:=info_parts ei.hi
 obtain ⟨vs,h1,h2⟩:=own.out
 have hl2:=sl.n_eq
 cases A with
 | none =>
  have hc:=sl.nil_ rfl
  have hm:=sl.cap_le
  obtain rfl:c=0:=hc
  obtain rfl:m=0:=by omega
  obtain rfl:l2=[]:=List.length_eq_zero_iff.1 hl2
  refine wpList_append_own_none hgd s x T ho base E i 1 ei.ht hi v n vs hs h1 hx ?_
  refine h v W ?_ ⟨rfl,rfl,rfl,Nat.le_refl _,fun _ _ _=>rfl⟩ (.inl rfl)
  rw [List.append_nil]
  exact own
 | some ad =>
  have hnews:∀ j u,(l2.map (Value.int k))[j]?=some u → W.cell? (ad.add j)=some u:=by
   intro j u hu
   rw [List.getElem?_map] at hu
   have hj:j < m:=by
    rcases Nat.lt_or_ge j m with h|h
    ·exact h
    ·rw [List.getElem?_eq_none (by omega)] at hu;cases hu
   obtain ⟨b,off,hA,_,_,hcell,_⟩:=sl.int_at j hj
   cases hA
   have hadd:(⟨b,off,none⟩:Addr).add j=⟨b,off+j,none⟩:=by unfold Addr.add;split <;> simp_all
   rw [hadd,hcell,List.getD_eq_getElem?_getD]
   rw [List.getElem?_eq_getElem (by omega)] at hu ⊢
   simpa using hu
  obtain ⟨v',w',hrun,k1,k2,_,k3⟩:=run_append_own_at (P:=P) W base T o.type E i z 1 bytes ei.ht hi hz0 hz1 hz2 ei.hz ei.hp v n vs h1 ad m c (l2.map (Value.int k))
   (by rw [List.length_map,hl2,Nat.mul_one]) hnews (by intro u hu;obtain ⟨y,_,rfl⟩:=List.mem_map.1 hu;rfl) h63 hbytes hbase
  refine wpList_plain hgd fun K hK=>?_
  unfold Oper.wp execOp
  simp only [ho,resolve,invoke,builtin,Sem.run_bind,Sem.run_pure,Result.andThen_ok,List.map_toArray,List.map_cons,List.map_nil,hs,hx,hrun]
  refine hK _ _ (h v' w' ⟨vs ++ l2.map (Value.int k),k1,?_⟩ k2 k3)
  exact (h2.keep fun b hb=>hb.elim).append (RowsOf.ints sl.inAll)
end
theorem Own.lit0 {W:World} {k:IntKind} {E:TypeId} {base:Nat} (hb:base≤W.heap.size):Own (tInt k) (W.alloc (.cells #[] E)) (fun _=>False) base E (.slice (some ⟨W.heap.size,0,none⟩) 0 0) 0 [] :=
 ⟨[],⟨rfl,.inr ⟨_,0,#[],rfl,hb,heap_alloc_new _ _,Nat.le_refl _,by decide,rfl,rfl⟩⟩,rfl⟩
end Go.Proofs.YtppcjcigekoipaaGreat
namespace Go.Proofs.YtppcjcigekoipaaGreat
open Go Go.RowKit
theorem range_blk {w:World} {g off:Nat} {e:TypeId} {cs:Array Value} {vs:List Value} (hb:Blk w g e cs) (hvs:(cs.toList.drop off).take vs.length=vs):w.rangeAt g off vs:=by
 intro j v hv
 rw [hb.cell]
 rw [← hvs,List.getElem?_take] at hv
 split at hv
 ·rw [List.getElem?_drop] at hv
  simpa using hv
 ·cases hv
theorem wpQuiet_load_mid {P:Program} {ops:Array Oper} {C:World → Prop} {Q:Act → Prop} {a:Act} {o:Oper} {rest:List Oper} (hw:Region.wanted o (yielded ops a.tmps)=true) (ty:TypeId) (x:Operand) (ho:o.op=.load ty x)
  (b off:Nat) (hx:a.eval x=.pointer (some ⟨b,off,none⟩)) (cs:List Value) (d:TypeDesc) (hC:∀ w,C w → w.rangeAt b off cs)
  (hu:P.underlying ty=some d) (hd:d.isRow=true) (hi:(P.info? ty).map (·.size)=some cs.length) (h:wpQuiet P ops C Q rest (a.put o.dst (.agg cs.toArray))):wpQuiet P ops C Q (o :: rest) a :=
 BigFrame.wpQuiet_want hw fun K hK=>⟨.agg cs.toArray,fun w hw'=>by
  unfold Oper.quietAt execOp
  simp only [ho,hx,Instr.loadAt,Instr.sureAddr,Sem.run_bind,Sem.run_pure,Result.andThen_ok,run_loadVar_mid w b off ty cs d (hC w hw') hu hd hi]
  exact ⟨rfl,rfl⟩,hK _ h⟩
end Go.Proofs.YtppcjcigekoipaaGreat
namespace Go.Proofs.YtppcjcigekoipaaGreat
open Go.RowKit Go.ChangeShapes Go.WideShapes
set_option maxRecDepth 100000
theorem cell_grown {w w':World} {p:Addr} {v:Value} {row:Option Nat} (g:w.grownBy w' row) (h:w.cell? p=some v) (hne:some p.block ≠ row):w'.cell? p=some v:=by
 have hlt:=World.block_lt_of_cell? w p h
 unfold World.cell? at *
 rw [g.block p.block hlt hne]
 exact h
section
variable {α:Type} {t:Ty α} {w w':World} {S S':Nat → Prop} {l:List α} {base n:Nat} {E:TypeId} {v:Value}
variable {P:Program} {ops:Array Oper} {rest:List Oper} {o:Oper} {a:Act} {Q:Go.Exit → Act → World → Prop} {T:TypeId} {z:Value} {bytes:Nat}
theorem oper_push {K:Act → World → Prop} {W:World} {cs:Array Value} (s x:Operand) (ho:o.op=.call { callee:=.builtin .append,args:=#[s,x],argTypes:=#[T,T] }) (ei:EI P T E z t.size bytes)
  (hs:a.eval s=v) (own:Own t W S base E v n l) (c:Nat) (hx:a.eval x=.slice (some ⟨W.heap.size,0,none⟩) 1 c) (y:α) (hr:t.rep W S cs.toList y)
  (h63:n+1≤maxLen) (hbytes:(n+1)*bytes≤140737488355328) (hbase:base≤W.heap.size) (hin:∀ b,S b → b < W.heap.size∧some b ≠ v.ownBlock)
  (h:∀ v' w',Own t w' S base E v' (n+1) (l ++ [y]) → W.grownBy w' v.ownBlock → (v'.ownBlock=v.ownBlock ∨ v'.ownBlock=some (W.heap.size+1)) → K (a.put o.dst v') w') :
  Oper.wp P o a (W.alloc (.cells cs E)) K Q:=by
 obtain ⟨i,hi,hz0,hz1,hz2⟩:=info_parts ei.hi
 obtain ⟨vs,h1,h2⟩:=own.out
 have hnews:∀ j u,cs.toList[j]?=some u → (W.alloc (.cells cs E)).cell? ((⟨W.heap.size,0,none⟩:Addr).add j)=some u:=by
  intro j u hu
  have hadd:(⟨W.heap.size,0,none⟩:Addr).add j=⟨W.heap.size,j,none⟩:=by unfold Addr.add;split <;> simp_all
  rw [hadd,cell_of_row (W.alloc (.cells cs E)) W.heap.size j cs E (0,0) (heap_alloc_new W _)]
  simpa using hu
 obtain ⟨v',w',hrun,k1,k2,_,k3⟩:=run_append_own_at (P:=P) (W.alloc (.cells cs E)) base T o.type E i z t.size bytes ei.ht hi hz0 hz1 hz2 ei.hz ei.hp v n vs (h1.alloc _) ⟨W.heap.size,0,none⟩ 1 c cs.toList
  (by rw [t.len hr,Nat.one_mul]) hnews (t.one hr) h63 hbytes (by simp;omega)
 have hg:W.grownBy w' v.ownBlock:=⟨k2.os,k2.tape,k2.output,Nat.le_trans (by simp) k2.size,fun k hk hne=>(k2.block k (by simp;omega) hne).trans (Below.heap_alloc W _ k hk)⟩
 unfold Oper.wp execOp
 simp only [ho,resolve,invoke,builtin,Sem.run_bind,Sem.run_pure,Result.andThen_ok,List.map_toArray,List.map_cons,List.map_nil,hs,hx,hrun]
 refine (h v' w' ⟨vs ++ cs.toList,k1,?_⟩ hg (by simpa using k3))
 refine (h2.keep fun b hb=>hg.block b (hin b hb).1 (hin b hb).2).snoc (t.keep hr fun b hb=>hg.block b (hin b hb).1 (hin b hb).2)
end
end Go.Proofs.YtppcjcigekoipaaGreat
namespace Go.Proofs.YtppcjcigekoipaaGreat
open Go
section
variable {P:Program} {ops:Array Oper} {Q:Exit → Act → World → Prop} {md:Region.Mode} {C:World → Prop} {k0:Nat}
theorem wpAnyT_firstM {i m:Nat} {oi:Oper} {v:Value} (hi:ops[i]?=some oi) (hsel:∀ (j:Nat) (o:Oper) cs b,ops[j]?=some o → o.op ≠ .select cs b)
  (hQ:∀ c a w,Q (.panic c) (a.put oi.dst v) w → Q (.panic c) a w) (hw:Region.waitsFor md ops k0 m=true) (hw2:Region.waitsFor md ops m i=true) (hne:i ≠ k0) :
  ∀ (fuel:Nat) (listed:Array Bool) (a:Act) (w:World),listed.getD m true=false →
   (∀ j oj,ops[j]?=some oj → j ≠ i → listed.getD j true=false → (∀ e ∈ oj.after,Region.binds md e=true → e.on ≠ i) → oi.apart ops oj=true) →
   i ∈ Region.ready md ops listed → YieldsIf P ops C oi v a → C w →
   wpAnyT P md ops Q C k0 fuel (listed.setIfInBounds i true) (a.put oi.dst v) w → wpAnyT P md ops Q C k0 (fuel+1) listed a w:=by
 obtain ⟨ok0,hok0,ek,hek,hbk,hon⟩:=Region.waitsFor_spec hw
 obtain ⟨om,hom,em,hem,hbm,hom2⟩:=Region.waitsFor_spec hw2
 intro fuel
 induction fuel with
 | zero =>
  intro listed a w _ _ hr hy hS H
  refine ⟨fun h=>(by rw [h] at hr;cases hr),fun j hj=>?_⟩
  by_cases hji:j=i
  ·subst hji
   rw [show (fun a' w'=>if j=k0 then wpAny P md ops Q 0 (listed.setIfInBounds j true) a' w' else C w'∧wpAnyT P md ops Q C k0 0 (listed.setIfInBounds j true) a' w')=(fun a' w'=>C w'∧wpAnyT P md ops Q C k0 0 (listed.setIfInBounds j true) a' w') from by funext a' w';rw [if_neg hne]]
   exact hy.wpOp hi hS ⟨hS,H⟩
  ·have:=ready_mono hj hji
   rw [H.1] at this
   cases this
 | succ fuel ih =>
  intro listed a w hm hfree hr hy hS H
  refine ⟨fun h=>(by rw [h] at hr;cases hr),fun j hj=>?_⟩
  by_cases hji:j=i
  ·subst hji
   rw [show (fun a' w'=>if j=k0 then wpAny P md ops Q (fuel+1) (listed.setIfInBounds j true) a' w' else C w'∧wpAnyT P md ops Q C k0 (fuel+1) (listed.setIfInBounds j true) a' w')=(fun a' w'=>C w'∧wpAnyT P md ops Q C k0 (fuel+1) (listed.setIfInBounds j true) a' w') from by funext a' w';rw [if_neg hne]]
   exact hy.wpOp hi hS ⟨hS,H⟩
  ·obtain ⟨hjun,oj,hoj,hall⟩:=mem_ready.1 hj
   have hnot:∀ e ∈ oj.after,Region.binds md e=true → e.on ≠ i:=fun e he hb heq=>by
    have h1:=hall e he hb
    have h0:=(mem_ready.1 hr).1
    rw [heq] at h1
    rcases Nat.lt_or_ge i listed.size with h'|h'
    ·simp [h'] at h0 h1;rw [h0] at h1;cases h1
    ·simp [Array.getElem?_eq_none h'] at h1
   have hjk:j ≠ k0:=fun e=>by
    subst e
    have:ok0=oj:=Option.some.inj (hok0.symm.trans hoj)
    subst this
    have h1:=hall ek hek hbk
    rw [hon] at h1
    rcases Nat.lt_or_ge m listed.size with h'|h'
    ·simp [h'] at hm h1;rw [hm] at h1;cases h1
    ·simp [Array.getElem?_eq_none h'] at h1
   have hjm:j ≠ m:=fun e=>by
    subst e
    have:om=oj:=Option.some.inj (hom.symm.trans hoj)
    subst this
    exact hnot em hem hbm hom2
   have h1:=H.2 j (ready_mono hj hji)
   rw [show (fun a' w'=>if j=k0 then wpAny P md ops Q fuel ((listed.setIfInBounds i true).setIfInBounds j true) a' w' else C w'∧wpAnyT P md ops Q C k0 fuel ((listed.setIfInBounds i true).setIfInBounds j true) a' w')=(fun a' w'=>C w'∧wpAnyT P md ops Q C k0 fuel ((listed.setIfInBounds i true).setIfInBounds j true) a' w') from by funext a' w';rw [if_neg hjk]] at h1
   rw [show (fun a' w'=>if j=k0 then wpAny P md ops Q (fuel+1) (listed.setIfInBounds j true) a' w' else C w'∧wpAnyT P md ops Q C k0 (fuel+1) (listed.setIfInBounds j true) a' w')=(fun a' w'=>C w'∧wpAnyT P md ops Q C k0 (fuel+1) (listed.setIfInBounds j true) a' w') from by funext a' w';rw [if_neg hjk]]
   have h2:=wpOp_putIf hoj (hfree j oj hoj hji hjun hnot) (fun cs b=>hsel i oi cs b hi) (fun cs b=>hsel j oj cs b hoj) hQ hy h1
   have hfree':∀ k ok,ops[k]?=some ok → k ≠ i → (listed.setIfInBounds j true).getD k true=false →
     (∀ e ∈ ok.after,Region.binds md e=true → e.on ≠ i) → oi.apart ops ok=true:=fun k ok hk hki hun hno=>by
    refine hfree k ok hk hki ?_ hno
    by_cases hjk:j=k
    ·subst hjk;exact hjun
    ·rw [getD_set_ne true hjk] at hun;exact hun
   refine wpOp_mono (fun a' w' h3=>⟨h3.2.1,ih (listed.setIfInBounds j true) a' w' (by rw [getD_set_ne true hjm];exact hm) hfree' (ready_mono hr (Ne.symm hji)) h3.1 h3.2.1 ?_⟩) h2
   rw [Array.setIfInBounds_comm _ _ hji]
   exact h3.2.2
theorem wpAnyT_takeM (m:Nat) {i:Nat} {oi:Oper} {v:Value} {fuel:Nat} {listed:Array Bool} {a:Act} {w:World} (hi:ops[i]?=some oi)
  (hs:Region.noSelect ops=true) (hf:Region.free md ops listed i=true) (hr:(Region.ready md ops listed).contains i=true) (hw:Region.waitsFor md ops k0 m=true) (hw2:Region.waitsFor md ops m i=true) (hm:listed.getD m true=false) (hne:(i == k0)=false)
  (hQ:∀ c a w,Q (.panic c) (a.put oi.dst v) w → Q (.panic c) a w) (hy:YieldsIf P ops C oi v a) (hS:C w)
  (h:wpAnyT P md ops Q C k0 fuel (listed.setIfInBounds i true) (a.put oi.dst v) w):wpAnyT P md ops Q C k0 (fuel+1) listed a w :=
 wpAnyT_firstM hi (Region.noSelect_spec hs) hQ hw hw2 (by simpa using hne) fuel listed a w hm (Region.free_spec hi hf) (by simpa using hr) hy hS h
end
end Go.Proofs.YtppcjcigekoipaaGreat
namespace Go.Proofs.YtppcjcigekoipaaGreat
open Go.RowKit Go.ChangeShapes Go.WideShapes
set_option maxRecDepth 100000
theorem ei_int:EI Tryz.prog 120 3 (.int .i64 0) 1 8:=⟨Tryz.underlying120,by kernel_rfl,rfl,by decide⟩
structure Pt where
 model:Int
 block:Int
 spent:Int
 input:Tensor
 value:Tensor
structure PtIn (p:Pt):Prop where
 model:InK .i64 p.model
 block:InK .i64 p.block
 spent:InK .i64 p.spent
 input:TensorIn p.input
 value:TensorIn p.value
def tPoint:Ty Pt:=tMap (fun (x:Int × Int × Int × Tensor × Tensor)=>⟨x.1,x.2.1,x.2.2.1,x.2.2.2.1,x.2.2.2.2⟩) (tPair (tInt .i64) (tPair (tInt .i64) (tPair (tInt .i64) (tPair tTensor tTensor))))
theorem point_open {w:World} {S:Nat → Prop} {cs:List Value} {p:Pt} (h:tPoint.rep w S cs p) :
  ∃ A n c B m d,cs=[.int .i64 p.model,.int .i64 p.block,.int .i64 p.spent,.int .i64 p.input.h,.int .i64 p.input.v,.int .i64 p.input.c,.slice A n c,.int .i64 p.value.h,.int .i64 p.value.v,.int .i64 p.value.c,.slice B m d] ∧
   PtIn p∧Sl (tInt .i8) w S A n c p.input.data∧Sl (tInt .i8) w S B m d p.value.data:=by
 obtain ⟨⟨a,b,c,t,u⟩,rfl,_,_,rfl,⟨rfl,h1⟩,_,_,rfl,⟨rfl,h2⟩,_,_,rfl,⟨rfl,h3⟩,_,_,rfl,ht,hu⟩:=h
 obtain ⟨A,n,cap,rfl,h4,hs⟩:=tensor_open ht
 obtain ⟨B,m,d,rfl,h5,hs'⟩:=tensor_open hu
 exact ⟨A,n,cap,B,m,d,rfl,⟨h1,h2,h3,h4,h5⟩,hs,hs'⟩
def noPoint:Pt:=⟨0,0,0,noTensor,noTensor⟩
def spot (l:List Int) (v:Int):Int:=match l.findIdx? (fun x=>x == v) with|none=>-1|some k=>k
theorem Own.base {α:Type} {t:Ty α} {w:World} {S:Nat → Prop} {base base':Nat} {E:TypeId} {v:Value} {n:Nat} {l:List α} (h:Own t w S base E v n l) (hb:base'≤base):Own t w S base' E v n l:=by
 obtain ⟨vs,⟨h1,h2⟩,h3⟩:=h.out
 refine ⟨vs,⟨h1,?_⟩,h3⟩
 rcases h2 with h2|⟨g,cap,cur,e1,e2,e3⟩
 ·exact .inl h2
 ·exact .inr ⟨g,cap,cur,e1,Nat.le_trans hb e2,e3⟩
end Go.Proofs.YtppcjcigekoipaaGreat
