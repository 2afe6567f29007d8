/-
  Nodes, tensors and sums as Lean data; an argument of these types opened.
-/
import Derived.Test.YtjkmjpjknmghlaaGreatJ00
set_option linter.unusedVariables false
set_option linter.unusedSimpArgs false
namespace Go.Proofs.YtjkmjpjknmghlaaGreat
open Go.RowKit Go.ChangeShapes Go.WideShapes
set_option maxRecDepth 100000
structure Node where
 kind:Int
 a:Int
 b:Int
 k:Int
 s:Int
 p:Int
 out:Int
 za:Int
 zb:Int
 w:List Int
 bias:List Int
 qm:Int
 qs:Int
 qz:Int
 rm:Int
 rs:Int
 rz:Int
 lo:Int
 hi:Int
structure NodeIn (d:Node):Prop where
 kind:InK .i64 d.kind
 a:InK .i64 d.a
 b:InK .i64 d.b
 k:InK .i64 d.k
 s:InK .i64 d.s
 p:InK .i64 d.p
 out:InK .i64 d.out
 za:InK .i8 d.za
 zb:InK .i8 d.zb
 qm:InK .i32 d.qm
 qs:InK .i64 d.qs
 qz:InK .i8 d.qz
 rm:InK .i32 d.rm
 rs:InK .i64 d.rs
 rz:InK .i8 d.rz
 lo:InK .i8 d.lo
 hi:InK .i8 d.hi
abbrev NodeP:=Int × Int × Int × Int × Int × Int × Int × Int × Int × List Int × List Int × (Int × Int × Int) × (Int × Int × Int) × Int × Int
def nodeOf:NodeP → Node:=fun (kind,a,b,k,s,p,out,za,zb,w,bias,(qm,qs,qz),(rm,rs,rz),lo,hi)=>{ kind,a,b,k,s,p,out,za,zb,w,bias,qm,qs,qz,rm,rs,rz,lo,hi }
def tQuant:Ty (Int × Int × Int):=tPair (tInt .i32) (tPair (tInt .i64) (tInt .i8))
def tNodeP:Ty NodeP:=tPair (tInt .i64) (tPair (tInt .i64) (tPair (tInt .i64) (tPair (tInt .i64) (tPair (tInt .i64) (tPair (tInt .i64) (tPair (tInt .i64) (tPair (tInt .i8) (tPair (tInt .i8)
 (tPair (tSlice (tInt .i8)) (tPair (tSlice (tInt .i32)) (tPair tQuant (tPair tQuant (tPair (tInt .i8) (tInt .i8))))))))))))))
def tNode:Ty Node:=tMap nodeOf tNodeP
theorem node_open {w:World} {S:Nat → Prop} {cs:List Value} {d:Node} (h:tNode.rep w S cs d) :
  ∃ W nw cw B nb cb,cs=[.int .i64 d.kind,.int .i64 d.a,.int .i64 d.b,.int .i64 d.k,.int .i64 d.s,.int .i64 d.p,.int .i64 d.out,.int .i8 d.za,.int .i8 d.zb,.slice W nw cw,.slice B nb cb,.int .i32 d.qm,.int .i64 d.qs,.int .i8 d.qz,.int .i32 d.rm,.int .i64 d.rs,.int .i8 d.rz,.int .i8 d.lo,.int .i8 d.hi]∧NodeIn d∧Sl (tInt .i8) w S W nw cw d.w∧Sl (tInt .i32) w S B nb cb d.bias:=by
 obtain ⟨⟨kind,a,b,k,s,p,out,za,zb,wl,bias,⟨qm,qs,qz⟩,⟨rm,rs,rz⟩,lo,hi⟩,rfl,h⟩:=h
 obtain ⟨_,_,rfl,⟨rfl,h1⟩,_,_,rfl,⟨rfl,h2⟩,_,_,rfl,⟨rfl,h3⟩,_,_,rfl,⟨rfl,h4⟩,_,_,rfl,⟨rfl,h5⟩,_,_,rfl,⟨rfl,h6⟩,_,_,rfl,⟨rfl,h7⟩,_,_,rfl,⟨rfl,h8⟩,_,_,rfl,⟨rfl,h9⟩,
  _,_,rfl,hw,_,_,rfl,hbi,_,_,rfl,⟨_,_,rfl,⟨rfl,h10⟩,_,_,rfl,⟨rfl,h11⟩,rfl,h12⟩,_,_,rfl,⟨_,_,rfl,⟨rfl,h13⟩,_,_,rfl,⟨rfl,h14⟩,rfl,h15⟩,_,_,rfl,⟨rfl,h16⟩,rfl,h17⟩:=h
 obtain ⟨W,cw,rfl,hw'⟩:=tSlice_iff.1 hw
 obtain ⟨B,cb,rfl,hb'⟩:=tSlice_iff.1 hbi
 exact ⟨W,_,cw,B,_,cb,rfl,⟨h1,h2,h3,h4,h5,h6,h7,h8,h9,h10,h11,h12,h13,h14,h15,h16,h17⟩,hw',hb'⟩
/-! ### Tensors -/
structure Tensor where
 h:Int
 v:Int
 c:Int
 data:List Int
structure TensorIn (t:Tensor):Prop where
 h:InK .i64 t.h
 v:InK .i64 t.v
 c:InK .i64 t.c
def tShape:Ty (Int × Int × Int):=tPair (tInt .i64) (tPair (tInt .i64) (tInt .i64))
def tensorOf (k:IntKind):Ty Tensor:=tMap (fun (x:(Int × Int × Int) × List Int)=>⟨x.1.1,x.1.2.1,x.1.2.2,x.2⟩) (tPair tShape (tSlice (tInt k)))
def tTensor:Ty Tensor:=tensorOf .i8
def RetT (k:IntKind) (x:Tensor) (code:Int) (w:World) (e:Ending) (w':World):Prop :=
 ∃ A n cap,e=.returned (.tuple #[.agg (tN x.h x.v x.c A n cap),.int .i64 code])∧Sl (tInt k) w' (bin w.heap.size w'.heap.size) A n cap x.data∧Below w.heap.size w w'
def noTensor:Tensor:=⟨0,0,0,[]⟩
theorem RetT.none {k:IntKind} {code:Int} {w w':World} (hb:Below w.heap.size w w'):RetT k noTensor code w (.returned (.tuple #[.agg (tN 0 0 0 none 0 0),.int .i64 code])) w' :=
 ⟨Option.none,0,0,rfl,Sl.nil _ _ _,hb⟩
theorem opens_i8s:Opens Tryz.prog 25 (tSlice (tInt .i8)):=opens_slice Tryz.underlying25 (by kernel_rfl) (by decide) (opens_int Tryz.underlying39 (by kernel_rfl))
theorem opens_i32s:Opens Tryz.prog 40 (tSlice (tInt .i32)):=opens_slice Tryz.underlying40 (by kernel_rfl) (by decide) (opens_int Tryz.underlying21 (by kernel_rfl))
theorem opens_i64:Opens Tryz.prog 3 (tInt .i64):=opens_int Tryz.underlying3 (by kernel_rfl)
theorem opens_i8:Opens Tryz.prog 39 (tInt .i8):=opens_int Tryz.underlying39 (by kernel_rfl)
theorem opens_i32:Opens Tryz.prog 21 (tInt .i32):=opens_int Tryz.underlying21 (by kernel_rfl)
theorem opens_shape:Opens Tryz.prog 24 tShape:=opens_struct Tryz.underlying24 (by kernel_rfl) (opensFrom_cons rfl opens_i64 (opensFrom_cons rfl opens_i64 (opensFrom_last rfl opens_i64)))
theorem opens_tensor:Opens Tryz.prog 27 tTensor:=opens_map _ (opens_struct Tryz.underlying27 (by kernel_rfl) (opensFrom_cons rfl opens_shape (opensFrom_last rfl opens_i8s)))
theorem opens_quant:Opens Tryz.prog 42 tQuant:=opens_struct Tryz.underlying42 (by kernel_rfl) (opensFrom_cons rfl opens_i32 (opensFrom_cons rfl opens_i64 (opensFrom_last rfl opens_i8)))
theorem opens_node:Opens Tryz.prog 44 tNode:=opens_map _ (opens_struct Tryz.underlying44 (by kernel_rfl)
 (opensFrom_cons rfl opens_i64 (opensFrom_cons rfl opens_i64 (opensFrom_cons rfl opens_i64 (opensFrom_cons rfl opens_i64 (opensFrom_cons rfl opens_i64 (opensFrom_cons rfl opens_i64 (opensFrom_cons rfl opens_i64 (opensFrom_cons rfl opens_i8 (opensFrom_cons rfl opens_i8
 (opensFrom_cons rfl opens_i8s (opensFrom_cons rfl opens_i32s (opensFrom_cons rfl opens_quant (opensFrom_cons rfl opens_quant (opensFrom_cons rfl opens_i8 (opensFrom_last rfl opens_i8))))))))))))))))
end Go.Proofs.YtjkmjpjknmghlaaGreat
