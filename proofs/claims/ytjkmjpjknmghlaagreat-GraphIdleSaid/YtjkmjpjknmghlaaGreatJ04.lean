/-
  A region that draws its order and whose operations read, or call what only makes memory: one walk of the text's order serves every order (the kit's theorem on quiet regions, at the class 'old memory is as it was').
  Facts taken over to a later world, each by one word ('.fut').
  One cell of a known block is stored, the world behind it opaque; facts taken over a store into another block.
  '==' of arrays of numbers, of 8 and of 4.
  Sums of whole numbers over ranges: one range of ranges, two ranges in either order.
  An array is handed back (parted off from CrcC).
  'append(l, r...)' where l is the call's own and r a slice of whole numbers.
  An append to a slice of the call's own, as an operation by itself (in a region that draws its order).
  'append(l, r...)' and 'make([]T, 0, n)' as operations by themselves (in a region that draws its order).
  A region's forced tail, met operation by operation (an operation of the tail's stretch may have been taken before).
  The frame of a law's proof: from a walk that ends in true and leaves all old memory as it was to the given statement's inner claim; each argument opened to data.
  A scope in which the run may jump ahead to one label, once.
  A region that draws its order, in the body of a loop over a function: by the laws for such a region anywhere.
  copy into a slice of the call's own (numbers): what went over lies there.
-/
import Derived.Test.YtjkmjpjknmghlaaGreatJ00
import Derived.Test.YtjkmjpjknmghlaaGreatChecked
import Derived.Laws.AppendOwnNone
import Derived.RangeFuncCalls
import Derived.Laws.CopyOwn
set_option linter.unusedVariables false
set_option linter.unusedSimpArgs false
namespace Go.Proofs.YtjkmjpjknmghlaaGreat
open Go.RowKit
def Ext (w0:World):Type:={ w:World // Below w0.heap.size w0 w }
def Ext.here (w0:World):Ext w0:=⟨w0,Below.refl _ _⟩
instance (w0:World):Nonempty (Ext w0):=⟨Ext.here w0⟩
section
variable {P:Program} {w0:World}
theorem wp_region_ext {id:Nat} {Q:Exit → Act → World → Prop} {a:Act} {w:World} {l:List Oper} (w0:World) (hm:P.follows .mixedOrders=true) (hB:Region.lexB .any l.toArray=true) (h0:Below w0.heap.size w0 w)
  (h:wpQuiet P l.toArray (fun w'=>∃ x:Ext w0,w'=x.1) (fun a'=>∀ w',(∃ x:Ext w0,w'=x.1) → Q .normal a' w') l a):(Code.region id l.toArray true).wp P Q a w :=
 wp_region_quiet (C:=fun w'=>∃ x:Ext w0,w'=x.1) hm hB ⟨⟨w.drew,h0.drew⟩,rfl⟩ (by simpa using h)
theorem calls_ext {f:FuncId} {args:Array Value} {v:Value} (x:Ext w0) (h:Calls P f args x.1 fun e w'=>e=.returned v∧Below x.1.heap.size x.1 w') :
  Calls P f args x.1 fun e w''=>e=.returned v∧∃ y:Ext w0,w''=y.1 :=
 h.mono fun e w' ⟨he,hb⟩=>⟨he,⟨w',x.2.trans (hb.mono x.2.size)⟩,rfl⟩
theorem ext_cell {p:Addr} {v:Value} (h:w0.cell? p=some v) (x:Ext w0):x.1.cell? p=some v:=(x.2.cell (World.block_lt_of_cell? w0 _ h)).trans h
theorem Blk.ext {g:Nat} {e:TypeId} {cs:Array Value} (h:Blk w0 g e cs) (x:Ext w0):Blk x.1 g e cs:=h.later x.2
end
end Go.Proofs.YtjkmjpjknmghlaaGreat
namespace Go.Proofs.YtjkmjpjknmghlaaGreat
open Go.RowKit Go.ChangeShapes Go.WideShapes
set_option maxRecDepth 100000
theorem Sl.fut {α:Type} {t:Ty α} {w w':World} {A:Option Addr} {n cap:Nat} {l:List α} (h:Sl t w (blo w.heap.size) A n cap l) (hb:Below w.heap.size w w'):Sl t w' (blo w'.heap.size) A n cap l:=h.later hb (Nat.le_refl _)
structure Far (w0 w:World):Prop where
 out:Below w0.heap.size w0 w
theorem Far.refl (w:World):Far w w:=⟨Below.refl _ _⟩
theorem Far.fut {w0 w w':World} (h:Far w0 w) (hb:Below w.heap.size w w'):Far w0 w':=⟨below_later hb h.out⟩
theorem Far.size {w0 w:World} (h:Far w0 w):w0.heap.size≤w.heap.size:=h.out.size
theorem Far.drewN {w0 w:World} (h:Far w0 w) (n:Nat):Far w0 (w.drewN n):=⟨below_drewN h.out n⟩
theorem Blk.fut {w w':World} {g:Nat} {e:TypeId} {cs:Array Value} (h:Blk w g e cs) (hb:Below w.heap.size w w'):Blk w' g e cs:=h.later hb
theorem Sl.old {α:Type} {t:Ty α} {w:World} {m:Nat} {A:Option Addr} {n cap:Nat} {l:List α} (h:Sl t w (bin m w.heap.size) A n cap l):Sl t w (blo w.heap.size) A n cap l:=h.more bin_blo
theorem Sl.since {α:Type} {t:Ty α} {w0 w w':World} {A:Option Addr} {n cap:Nat} {l:List α} (h:Sl t w' (bin w.heap.size w'.heap.size) A n cap l) (hf:Far w0 w):Sl t w' (bin w0.heap.size w'.heap.size) A n cap l:=h.more (bin_more hf.size (Nat.le_refl _))
structure New (w0:World) {α:Type} (t:Ty α) (w:World) (A:Option Addr) (n cap:Nat) (l:List α):Prop where
 out:Sl t w (bin w0.heap.size w.heap.size) A n cap l
theorem New.fut {w0:World} {α:Type} {t:Ty α} {w w':World} {A:Option Addr} {n cap:Nat} {l:List α} (h:New w0 t w A n cap l) (hb:Below w.heap.size w w'):New w0 t w' A n cap l :=
 ⟨(h.out.below hb fun _ k=>k.2).more (bin_more (Nat.le_refl _) hb.size)⟩
theorem New.old {w0:World} {α:Type} {t:Ty α} {w:World} {A:Option Addr} {n cap:Nat} {l:List α} (h:New w0 t w A n cap l):Sl t w (blo w.heap.size) A n cap l:=h.out.old
theorem New.set {w0:World} {α:Type} {t:Ty α} {w:World} {A:Option Addr} {n cap:Nat} {l:List α} (h:New w0 t w A n cap l) (p:Addr) (u:Value) (hp:p.block < w0.heap.size):New w0 t (w.setCell p u) A n cap l :=
 ⟨(h.out.keep fun b hb=>Below.heap_setCell w p u b (by have:=hb.1;omega)).more fun b hb=>⟨hb.1,by simpa using hb.2⟩⟩
theorem Far.set {w0 w:World} (h:Far w0 w) (p:Addr) (u:Value) (hp:w0.heap.size≤p.block):Far w0 (w.setCell p u):=⟨h.out.setCell hp _⟩
theorem Far.trans {w0 w1 w2:World} (h:Far w0 w1) (h':Far w1 w2):Far w0 w2:=⟨below_later h'.out h.out⟩
theorem New.since {w0 w1:World} {α:Type} {t:Ty α} {w:World} {A:Option Addr} {n cap:Nat} {l:List α} (h:New w1 t w A n cap l) (hf:Far w0 w1):Sl t w (bin w0.heap.size w.heap.size) A n cap l:=h.out.more (bin_more hf.size (Nat.le_refl _))
theorem New.of {w0 w w':World} {α:Type} {t:Ty α} {A:Option Addr} {n cap:Nat} {l:List α} (h:Sl t w' (bin w.heap.size w'.heap.size) A n cap l) (hf:Far w0 w):New w0 t w' A n cap l:=⟨h.since hf⟩
theorem New.nil (w0:World) {α:Type} (t:Ty α) (w:World):New w0 t w none 0 0 ([]:List α):=⟨Sl.nil _ _ _⟩
end Go.Proofs.YtjkmjpjknmghlaaGreat
namespace Go.Proofs.YtjkmjpjknmghlaaGreat
open Go Go.RowKit
theorem Blk.away {w w':World} {g m:Nat} {e:TypeId} {cs:Array Value} (h:Blk w g e cs) (hg:w.grownBy w' (some m)) (hne:g < m ∨ m < g):Blk w' g e cs :=
 ⟨(hg.block g h.lt (fun e=>by have:=Option.some.inj e;omega)).trans h.heap⟩
theorem Far.away {w0 w w':World} {m:Nat} (h:Far w0 w) (hg:w.grownBy w' (some m)) (hm:w0.heap.size≤m):Far w0 w' :=
 ⟨h.out.grown hg h.out.size (fun k hk=>by have:=Option.some.inj hk;omega)⟩
theorem New.away {w0:World} {α:Type} {t:Ty α} {w w':World} {A:Option Addr} {n cap m:Nat} {l:List α} (h:New w0 t w A n cap l) (hg:w.grownBy w' (some m)) (hm:m < w0.heap.size):New w0 t w' A n cap l :=
 ⟨(h.out.keep fun b hb=>hg.block b hb.2 (fun e=>by have:=Option.some.inj e;have:=hb.1;omega)).more fun b hb=>⟨hb.1,Nat.lt_of_lt_of_le hb.2 hg.size⟩⟩
theorem Sl.away {α:Type} {t:Ty α} {w w':World} {n0 m:Nat} {A:Option Addr} {n cap:Nat} {l:List α} (h:Sl t w (blo n0) A n cap l) (hg:w.grownBy w' (some m)) (hm:n0≤m) (hn:n0≤w.heap.size):Sl t w' (blo n0) A n cap l :=
 h.keep fun b hb=>hg.block b (Nat.lt_of_lt_of_le hb hn) (fun e=>by have:=Option.some.inj e;have:b < n0:=hb;omega)
structure Old (w0:World) {α:Type} (t:Ty α) (w:World) (A:Option Addr) (n cap:Nat) (l:List α):Prop where
 out:Sl t w (blo w0.heap.size) A n cap l
 le:w0.heap.size≤w.heap.size
section
variable {w0 w w':World} {α:Type} {t:Ty α} {A:Option Addr} {n cap m:Nat} {l:List α}
theorem Old.now (h:Sl t w (blo w.heap.size) A n cap l):Old w t w A n cap l:=⟨h,Nat.le_refl _⟩
theorem Old.fut (h:Old w0 t w A n cap l) (hb:Below w.heap.size w w'):Old w0 t w' A n cap l:=⟨h.out.below hb (fun b hb=>Nat.lt_of_lt_of_le hb h.le),Nat.le_trans h.le hb.size⟩
theorem Old.away (h:Old w0 t w A n cap l) (hg:w.grownBy w' (some m)) (hm:w0.heap.size≤m):Old w0 t w' A n cap l :=
 ⟨h.out.keep fun b hb=>hg.block b (Nat.lt_of_lt_of_le hb h.le) (fun e=>by have:=Option.some.inj e;have:b < w0.heap.size:=hb;omega),Nat.le_trans h.le hg.size⟩
theorem Old.all (h:Old w0 t w A n cap l):Sl t w (blo w.heap.size) A n cap l:=h.out.more (blo_more h.le)
theorem Old.draw (h:Old w0 t w A n cap l):Old w0 t w.drew A n cap l:=⟨h.out.keep fun b hb=>rfl,h.le⟩
end
theorem Blk.draw {w:World} {g:Nat} {e:TypeId} {cs:Array Value} (h:Blk w g e cs):Blk w.drew g e cs:=h.drew
theorem Far.draw {w0 w:World} (h:Far w0 w):Far w0 w.drew:=⟨h.out.drew⟩
theorem New.draw {w0:World} {α:Type} {t:Ty α} {w:World} {A:Option Addr} {n cap:Nat} {l:List α} (h:New w0 t w A n cap l):New w0 t w.drew A n cap l:=⟨h.out.keep fun b hb=>rfl⟩
section
variable {P:Program} {ops:Array Oper} {rest:List Oper} {op:Oper} {a:Act} {w:World} {Q:Exit → Act → World → Prop}
theorem wpList_store_one (hgd:op.guard=none) (ty:TypeId) (x y:Operand) (ho:op.op=.store ty x y) (g off:Nat) (v:Value) (hx:a.eval x=.pointer (some ⟨g,off,none⟩)) (hy:a.eval y=v) (hv:v.cells=#[v]) (h1:v.oneCell'=true)
  (e:TypeId) (cs cs':Array Value) (hb:Blk w g e cs) (hfit:off < cs.size) (hi:(P.info? ty).map (·.size)=some 1) (hcs:cs'.toList=cs.toList.take off ++ [v] ++ cs.toList.drop (off+1))
  (h:∀ w',Blk w' g e cs' → w.grownBy w' (some g) → wpList P ops Q rest (a.put op.dst undef) w'):wpList P ops Q (op :: rest) a w:=by
 have hcs:=putAt_list (vs:=[v]) (o:=off) (cs:=cs) (cs':=cs') (by simp;omega) (by simpa using hcs)
 subst hcs
 have hrun:(storeVar ty ⟨g,off,none⟩ v).run P w=.ok () (w.setCells g off [v]):=by
  have:=run_storeCells_cells (P:=P) g off [v] 0 w (fun j hj=>by simp at hj;subst hj;rw [hb.cell];simp;omega) (fun j hj=>hb.frozen _) (fun u hu=>by simp at hu;subst hu;exact h1)
  cases hq:P.info? ty with
  | none=>simp [hq] at hi
  | some i =>
   have hs:i.size=1:=by simpa [hq] using hi
   simp only [Nat.add_zero] at this
   simp [storeVar,sizeOf,typeInfo,hq,hv,hs,this]
 refine wpList_plain hgd fun K hK=>?_
 unfold Oper.wp execOp
 simp only [ho,hx,hy,Instr.storeAt,Instr.sureAddr,Sem.run_bind,Sem.run_pure,Result.andThen_ok,hrun]
 exact hK _ _ (h _ (Blk.setCells _ _ _ _ hb) (grown_setCells _ _ _))
theorem oper_store_one {K:Act → World → Prop} (ty:TypeId) (x y:Operand) (ho:op.op=.store ty x y) (g off:Nat) (v:Value) (hx:a.eval x=.pointer (some ⟨g,off,none⟩)) (hy:a.eval y=v) (hv:v.cells=#[v]) (h1:v.oneCell'=true)
  (e:TypeId) (cs cs':Array Value) (hb:Blk w g e cs) (hfit:off < cs.size) (hi:(P.info? ty).map (·.size)=some 1) (hcs:cs'.toList=cs.toList.take off ++ [v] ++ cs.toList.drop (off+1))
  (h:∀ w',Blk w' g e cs' → w.grownBy w' (some g) → K (a.put op.dst undef) w'):op.wp P a w K Q:=by
 have hcs:=putAt_list (vs:=[v]) (o:=off) (cs:=cs) (cs':=cs') (by simp;omega) (by simpa using hcs)
 subst hcs
 have hrun:(storeVar ty ⟨g,off,none⟩ v).run P w=.ok () (w.setCells g off [v]):=by
  have:=run_storeCells_cells (P:=P) g off [v] 0 w (fun j hj=>by simp at hj;subst hj;rw [hb.cell];simp;omega) (fun j hj=>hb.frozen _) (fun u hu=>by simp at hu;subst hu;exact h1)
  cases hq:P.info? ty with
  | none=>simp [hq] at hi
  | some i =>
   have hs:i.size=1:=by simpa [hq] using hi
   simp only [Nat.add_zero] at this
   simp [storeVar,sizeOf,typeInfo,hq,hv,hs,this]
 unfold Oper.wp execOp
 simp only [ho,hx,hy,Instr.storeAt,Instr.sureAddr,Sem.run_bind,Sem.run_pure,Result.andThen_ok,hrun]
 exact h _ (Blk.setCells _ _ _ _ hb) (grown_setCells _ _ _)
end
end Go.Proofs.YtjkmjpjknmghlaaGreat
namespace Go.Proofs.YtjkmjpjknmghlaaGreat
open Go
theorem run_eql_arr4 {P:Program} {t e:TypeId} {k:IntKind} (w:World) (hT:P.underlying t=some (.array 4 e)) (hE:P.underlying e=some (.int k)) (hs:(P.info? e).map (·.size)=some 1) (hp:P.plainKey e=true) (a0 a1 a2 a3 b0 b1 b2 b3:Int) :
  (Op.equalIn 10000 t (.agg #[.int k a0,.int k a1,.int k a2,.int k a3]) (.agg #[.int k b0,.int k b1,.int k b2,.int k b3])).run P w=.ok ([a0,a1,a2,a3] == [b0,b1,b2,b3]) w:=by
 have hsz:(Go.sizeOf e).run P w=.ok 1 w:=by
  cases hq:P.info? e with
  | none=>simp [hq] at hs
  | some i =>
   have:i.size=1:=by simpa [hq] using hs
   simp [Go.sizeOf,typeInfo,hq,this]
 have hpart:∀ (xs:Array Value) (off:Nat),off < xs.size → (part e xs off).run P w=.ok xs[off]! w:=fun xs off h=>run_part_plain (w:=w) hp (by simp [h])
 have hq:∀ x y:Int,(Op.equalIn 9999 e (.int k x) (.int k y)).run P w=.ok (x == y) w:=fun x y=>by
  show (Op.equalIn (9998+1) e _ _).run P w=_
  exact run_equalIn_int w 9998 e k k x y hE
 show (Op.equalIn (9999+1) t _ _).run P w=_
 unfold Op.equalIn
 simp only [Sem.run_bind,run_underlying hT w,Result.andThen_ok]
 simp [Std.Legacy.Range.forIn_eq_forIn_range',Std.Legacy.Range.size,List.range',Sem.run_bind,hpart,hq,hsz]
 by_cases h0:a0=b0
 rotate_left
 ·simp [h0]
 subst h0
 try simp
 by_cases h1:a1=b1
 rotate_left
 ·simp [h1]
 subst h1
 try simp
 by_cases h2:a2=b2
 rotate_left
 ·simp [h2]
 subst h2
 try simp
 by_cases h3:a3=b3
 rotate_left
 ·simp [h3]
 subst h3
 try simp
theorem run_eql_arr8 {P:Program} {t e:TypeId} {k:IntKind} (w:World) (hT:P.underlying t=some (.array 8 e)) (hE:P.underlying e=some (.int k)) (hs:(P.info? e).map (·.size)=some 1) (hp:P.plainKey e=true) (a0 a1 a2 a3 a4 a5 a6 a7 b0 b1 b2 b3 b4 b5 b6 b7:Int) :
  (Op.equalIn 10000 t (.agg #[.int k a0,.int k a1,.int k a2,.int k a3,.int k a4,.int k a5,.int k a6,.int k a7]) (.agg #[.int k b0,.int k b1,.int k b2,.int k b3,.int k b4,.int k b5,.int k b6,.int k b7])).run P w=.ok ([a0,a1,a2,a3,a4,a5,a6,a7] == [b0,b1,b2,b3,b4,b5,b6,b7]) w:=by
 have hsz:(Go.sizeOf e).run P w=.ok 1 w:=by
  cases hq:P.info? e with
  | none=>simp [hq] at hs
  | some i =>
   have:i.size=1:=by simpa [hq] using hs
   simp [Go.sizeOf,typeInfo,hq,this]
 have hpart:∀ (xs:Array Value) (off:Nat),off < xs.size → (part e xs off).run P w=.ok xs[off]! w:=fun xs off h=>run_part_plain (w:=w) hp (by simp [h])
 have hq:∀ x y:Int,(Op.equalIn 9999 e (.int k x) (.int k y)).run P w=.ok (x == y) w:=fun x y=>by
  show (Op.equalIn (9998+1) e _ _).run P w=_
  exact run_equalIn_int w 9998 e k k x y hE
 show (Op.equalIn (9999+1) t _ _).run P w=_
 unfold Op.equalIn
 simp only [Sem.run_bind,run_underlying hT w,Result.andThen_ok]
 simp [Std.Legacy.Range.forIn_eq_forIn_range',Std.Legacy.Range.size,List.range',Sem.run_bind,hpart,hq,hsz]
 by_cases h0:a0=b0
 rotate_left
 ·simp [h0]
 subst h0
 try simp
 by_cases h1:a1=b1
 rotate_left
 ·simp [h1]
 subst h1
 try simp
 by_cases h2:a2=b2
 rotate_left
 ·simp [h2]
 subst h2
 try simp
 by_cases h3:a3=b3
 rotate_left
 ·simp [h3]
 subst h3
 try simp
 by_cases h4:a4=b4
 rotate_left
 ·simp [h4]
 subst h4
 try simp
 by_cases h5:a5=b5
 rotate_left
 ·simp [h5]
 subst h5
 try simp
 by_cases h6:a6=b6
 rotate_left
 ·simp [h6]
 subst h6
 try simp
 by_cases h7:a7=b7
 rotate_left
 ·simp [h7]
 subst h7
 try simp
theorem run_eql_st3 {P : Program} {t : TypeId} {f0 f1 f2 : Field} {k0 k1 k2 : IntKind} (w : World) (hT : P.underlying t = some (.struct #[f0, f1, f2])) (hst : P.stoodInHeld t = false) (hn : f0.name ≠ "_" ∧ f1.name ≠ "_" ∧ f2.name ≠ "_") (ho : f0.offset = 0 ∧ f1.offset = 1 ∧ f2.offset = 2)
  (h0:P.underlying f0.type=some (.int k0)) (h1:P.underlying f1.type=some (.int k1)) (h2:P.underlying f2.type=some (.int k2)) (p0:P.plainKey f0.type=true) (p1:P.plainKey f1.type=true) (p2:P.plainKey f2.type=true) (a0 a1 a2 b0 b1 b2:Int) :
  (Op.equalIn 10000 t (.agg #[.int k0 a0,.int k1 a1,.int k2 a2]) (.agg #[.int k0 b0,.int k1 b1,.int k2 b2])).run P w=.ok ([a0,a1,a2] == [b0,b1,b2]) w:=by
 have q0:∀ (xs:Array Value) (off:Nat),off < xs.size → (part f0.type xs off).run P w=.ok xs[off]! w:=fun xs off h=>run_part_plain (w:=w) p0 (by simp [h])
 have q1:∀ (xs:Array Value) (off:Nat),off < xs.size → (part f1.type xs off).run P w=.ok xs[off]! w:=fun xs off h=>run_part_plain (w:=w) p1 (by simp [h])
 have q2:∀ (xs:Array Value) (off:Nat),off < xs.size → (part f2.type xs off).run P w=.ok xs[off]! w:=fun xs off h=>run_part_plain (w:=w) p2 (by simp [h])
 have e0:∀ x y:Int,(Op.equalIn 9999 f0.type (.int k0 x) (.int k0 y)).run P w=.ok (x == y) w:=fun x y=>by
  show (Op.equalIn (9998+1) _ _ _).run P w=_
  exact run_equalIn_int w 9998 f0.type k0 k0 x y h0
 have e1:∀ x y:Int,(Op.equalIn 9999 f1.type (.int k1 x) (.int k1 y)).run P w=.ok (x == y) w:=fun x y=>by
  show (Op.equalIn (9998+1) _ _ _).run P w=_
  exact run_equalIn_int w 9998 f1.type k1 k1 x y h1
 have e2:∀ x y:Int,(Op.equalIn 9999 f2.type (.int k2 x) (.int k2 y)).run P w=.ok (x == y) w:=fun x y=>by
  show (Op.equalIn (9998+1) _ _ _).run P w=_
  exact run_equalIn_int w 9998 f2.type k2 k2 x y h2
 show (Op.equalIn (9999+1) t _ _).run P w=_
 unfold Op.equalIn
 simp only [Sem.run_bind,run_underlying hT w,Result.andThen_ok]
 simp [Sem.run_bind,q0,q1,q2,e0,e1,e2,hst,hn.1,hn.2.1,hn.2.2,ho.1,ho.2.1,ho.2.2,run_program]
 by_cases h0:a0=b0
 rotate_left
 ·simp [h0]
 subst h0
 try simp
 by_cases h1:a1=b1
 rotate_left
 ·simp [h1]
 subst h1
 try simp
 by_cases h2:a2=b2
 rotate_left
 ·simp [h2]
 subst h2
 try simp
theorem wpList_eql_agg {P:Program} {ops:Array Oper} {rest:List Oper} {o:Oper} {a:Act} {w:World} {Q:Exit → Act → World → Prop} (t u:TypeId) (x y:Operand) (ho:o.op=.binOp .eql t x y u) (xs ys:Array Value) (hx:a.eval x=.agg xs) (hy:a.eval y=.agg ys)
  (hw:Region.wanted o (yielded ops a.tmps)=true) (hm:P.eqGuardType P.depth t=false) (b:Bool) (hrun:(Op.equalIn 10000 t (.agg xs) (.agg ys)).run P w=.ok b w) (h:wpList P ops Q rest (a.put o.dst (.bool b)) w):wpList P ops Q (o :: rest) a w:=by
 refine BigFrame.wpList_want hw fun K hK=>?_
 unfold Oper.wp execOp
 simp only [ho,hx,hy,Sem.run_bind,fun w=>run_eqGuard_agg (P:=P) w .eql t x y xs ys hm,run_eql_struct,hrun,Result.andThen_ok,Sem.run_pure]
 exact hK _ _ (by simpa using h)
end Go.Proofs.YtjkmjpjknmghlaaGreat
namespace Go.Proofs.YtjkmjpjknmghlaaGreat
def sumN:Nat → (Nat → Int) → Int
 | 0,_=>0
 | n+1,f=>sumN n f+f n
theorem sumN_congr {n:Nat} {f g:Nat → Int} (h:∀ i,i < n → f i=g i):sumN n f=sumN n g:=by
 induction n with
 | zero=>rfl
 | succ n ih=>rw [sumN,sumN,ih (fun i hi=>h i (by omega)),h n (by omega)]
theorem sumN_add (n:Nat) (f g:Nat → Int):sumN n (fun i=>f i+g i)=sumN n f+sumN n g:=by
 induction n with
 | zero=>rfl
 | succ n ih=>simp only [sumN,ih];omega
theorem sumN_zero (n:Nat):sumN n (fun _=>0)=0:=by
 induction n with
 | zero=>rfl
 | succ n ih=>simp only [sumN,ih];rfl
theorem sumN_append (a b:Nat) (f:Nat → Int):sumN (a+b) f=sumN a f+sumN b (fun i=>f (a+i)):=by
 induction b with
 | zero=>simp [sumN]
 | succ b ih=>rw [← Nat.add_assoc,sumN,ih,sumN];omega
theorem sumN_mul (a b:Nat) (f:Nat → Int):sumN (a*b) f=sumN a (fun i=>sumN b (fun j=>f (i*b+j))):=by
 induction a with
 | zero=>simp [sumN]
 | succ a ih=>rw [Nat.add_mul,Nat.one_mul,sumN_append,ih,sumN]
theorem sumN_swap (a b:Nat) (g:Nat → Nat → Int):sumN a (fun i=>sumN b (g i))=sumN b (fun j=>sumN a (fun i=>g i j)):=by
 induction a with
 | zero=>simp only [sumN];rw [sumN_zero]
 | succ a ih=>simp only [sumN];rw [ih,sumN_add]
theorem sumN_three (f:Nat → Int):sumN 3 f=f 0+f 1+f 2:=by simp [sumN]
theorem sumN_le {n:Nat} {f:Nat → Int} {b:Nat} (h:∀ i,i < n → (f i).natAbs≤b):(sumN n f).natAbs≤n*b:=by
 induction n with
 | zero=>simp [sumN]
 | succ n ih =>
  have h1:=ih (fun i hi=>h i (by omega))
  have h2:=h n (by omega)
  rw [sumN,Nat.succ_mul]
  omega
end Go.Proofs.YtjkmjpjknmghlaaGreat
namespace Go.Proofs.YtjkmjpjknmghlaaGreat
open Go.RowKit Go.ChangeShapes Go.WideShapes
set_option maxRecDepth 100000
theorem ret_array {P:Program} {fn:Func} {R:Ending → World → Prop} {a:Act} {w:World} {g:Nat} {e ty el:TypeId} {n:Nat} {cs:Array Value} {p:Tmp} (h:fn.results=#[.cell p ty]) (hb:Blk w g e cs) (hp:a.tmps.getD p undef=.pointer (some ⟨g,0,none⟩)) (hu:P.underlying ty=some (.array n el)) (hi:(P.info? ty).map (·.size)=some cs.size) (hd:a.defers=[])
  (hR:R (.returned (.agg cs)) w):bodyPost P fn R .ret a w:=by
 refine bodyPost_ret (v:=.agg cs) ?_ hd hR
 simp only [results,h]
 have hp':a.tmps[p]?.getD undef=.pointer (some ⟨g,0,none⟩):=by simpa using hp
 simp [Sem.run_bind,hp',run_asAddr_ptr,run_loadVar_row w g e ty cs (0,0) (.array n el) hb.heap hu rfl hi,Result.andThen]
theorem Sl.inAll {k:IntKind} {w:World} {S:Nat → Prop} {A:Option Addr} {n cap:Nat} {l:List Int} (h:Sl (tInt k) w S A n cap l):∀ x ∈ l,InK k x:=by
 intro x hx
 obtain ⟨j,hj,rfl⟩:=List.getElem_of_mem hx
 have:=h.allK j
 rwa [List.getD_eq_getElem?_getD,List.getElem?_eq_getElem hj] at this
section
variable {P:Program} {ops:Array Oper} {rest:List Oper} {o:Oper} {a:Act} {Q:Exit → Act → World → Prop} {T E:TypeId} {z:Value} {bytes base n m c:Nat} {v:Value} {k:IntKind} {l l2:List Int} {A:Option Addr} {S:Nat → Prop}
theorem wpList_extend {W:World} (hgd:o.guard=none) (s x:Operand) (ho:o.op=.call { callee:=.builtin .append,args:=#[s,x],argTypes:=#[T,T] }) (ei:EI P T E z 1 bytes)
  (hs:a.eval s=v) (own:Own (tInt k) W (fun _=>False) base E v n l) (hx:a.eval x=.slice A m c) (sl:Sl (tInt k) W S A m c l2)
  (h63:n+m≤maxLen) (hbytes:(n+m)*bytes≤140737488355328) (hbase:base≤W.heap.size)
  (h:∀ v' w',Own (tInt k) w' (fun _=>False) base E v' (n+m) (l ++ l2) → W.grownBy w' v.ownBlock → (v'.ownBlock=v.ownBlock ∨ v'.ownBlock=some W.heap.size) → wpList P ops Q rest (a.put o.dst v') w') :
  wpList P ops Q (o :: rest) a W:=by
 obtain ⟨i,hi,hz0,hz1,hz2⟩:=info_parts ei.hi
 obtain ⟨vs,h1,h2⟩:=own.out
 have hl2:=sl.n_eq
 cases A with
 | none =>
  have hc:=sl.nil_ rfl
  have hm:=sl.cap_le
  obtain rfl:c=0:=hc
  obtain rfl:m=0:=by omega
  obtain rfl:l2=[]:=List.length_eq_zero_iff.1 hl2
  refine wpList_append_own_none hgd s x T ho base E i 1 ei.ht hi v n vs hs h1 hx ?_
  refine h v W ?_ ⟨rfl,rfl,rfl,Nat.le_refl _,fun _ _ _=>rfl⟩ (.inl rfl)
  rw [List.append_nil]
  exact own
 | some ad =>
  have hnews:∀ j u,(l2.map (Value.int k))[j]?=some u → W.cell? (ad.add j)=some u:=by
   intro j u hu
   rw [List.getElem?_map] at hu
   have hj:j < m:=by
    rcases Nat.lt_or_ge j m with h|h
    ·exact h
    ·rw [List.getElem?_eq_none (by omega)] at hu;cases hu
   obtain ⟨b,off,hA,_,_,hcell,_⟩:=sl.int_at j hj
   cases hA
   have hadd:(⟨b,off,none⟩:Addr).add j=⟨b,off+j,none⟩:=by unfold Addr.add;split <;> simp_all
   rw [hadd,hcell,List.getD_eq_getElem?_getD]
   rw [List.getElem?_eq_getElem (by omega)] at hu ⊢
   simpa using hu
  obtain ⟨v',w',hrun,k1,k2,_,k3⟩:=run_append_own_at (P:=P) W base T o.type E i z 1 bytes ei.ht hi hz0 hz1 hz2 ei.hz ei.hp v n vs h1 ad m c (l2.map (Value.int k))
   (by rw [List.length_map,hl2,Nat.mul_one]) hnews (by intro u hu;obtain ⟨y,_,rfl⟩:=List.mem_map.1 hu;rfl) h63 hbytes hbase
  refine wpList_plain hgd fun K hK=>?_
  unfold Oper.wp execOp
  simp only [ho,resolve,invoke,builtin,Sem.run_bind,Sem.run_pure,Result.andThen_ok,List.map_toArray,List.map_cons,List.map_nil,hs,hx,hrun]
  refine hK _ _ (h v' w' ⟨vs ++ l2.map (Value.int k),k1,?_⟩ k2 k3)
  exact (h2.keep fun b hb=>hb.elim).append (RowsOf.ints sl.inAll)
end
theorem cell_grown {w w':World} {p:Addr} {v:Value} {row:Option Nat} (g:w.grownBy w' row) (h:w.cell? p=some v) (hne:some p.block ≠ row):w'.cell? p=some v:=by
 have hlt:=World.block_lt_of_cell? w p h
 unfold World.cell? at *
 rw [g.block p.block hlt hne]
 exact h
section
variable {α:Type} {t:Ty α} {w w':World} {S S':Nat → Prop} {l:List α} {base n:Nat} {E:TypeId} {v:Value}
variable {P:Program} {ops:Array Oper} {rest:List Oper} {o:Oper} {a:Act} {Q:Go.Exit → Act → World → Prop} {T:TypeId} {z:Value} {bytes:Nat}
theorem oper_push {K:Act → World → Prop} {W:World} {cs:Array Value} (s x:Operand) (ho:o.op=.call { callee:=.builtin .append,args:=#[s,x],argTypes:=#[T,T] }) (ei:EI P T E z t.size bytes)
  (hs:a.eval s=v) (own:Own t W S base E v n l) (c:Nat) (hx:a.eval x=.slice (some ⟨W.heap.size,0,none⟩) 1 c) (y:α) (hr:t.rep W S cs.toList y)
  (h63:n+1≤maxLen) (hbytes:(n+1)*bytes≤140737488355328) (hbase:base≤W.heap.size) (hin:∀ b,S b → b < W.heap.size∧some b ≠ v.ownBlock)
  (h:∀ v' w',Own t w' S base E v' (n+1) (l ++ [y]) → W.grownBy w' v.ownBlock → (v'.ownBlock=v.ownBlock ∨ v'.ownBlock=some (W.heap.size+1)) → K (a.put o.dst v') w') :
  Oper.wp P o a (W.alloc (.cells cs E)) K Q:=by
 obtain ⟨i,hi,hz0,hz1,hz2⟩:=info_parts ei.hi
 obtain ⟨vs,h1,h2⟩:=own.out
 have hnews:∀ j u,cs.toList[j]?=some u → (W.alloc (.cells cs E)).cell? ((⟨W.heap.size,0,none⟩:Addr).add j)=some u:=by
  intro j u hu
  have hadd:(⟨W.heap.size,0,none⟩:Addr).add j=⟨W.heap.size,j,none⟩:=by unfold Addr.add;split <;> simp_all
  rw [hadd,cell_of_row (W.alloc (.cells cs E)) W.heap.size j cs E (0,0) (heap_alloc_new W _)]
  simpa using hu
 obtain ⟨v',w',hrun,k1,k2,_,k3⟩:=run_append_own_at (P:=P) (W.alloc (.cells cs E)) base T o.type E i z t.size bytes ei.ht hi hz0 hz1 hz2 ei.hz ei.hp v n vs (h1.alloc _) ⟨W.heap.size,0,none⟩ 1 c cs.toList
  (by rw [t.len hr,Nat.one_mul]) hnews (t.one hr) h63 hbytes (by simp;omega)
 have hg:W.grownBy w' v.ownBlock:=⟨k2.os,k2.tape,k2.output,Nat.le_trans (by simp) k2.size,fun k hk hne=>(k2.block k (by simp;omega) hne).trans (Below.heap_alloc W _ k hk)⟩
 unfold Oper.wp execOp
 simp only [ho,resolve,invoke,builtin,Sem.run_bind,Sem.run_pure,Result.andThen_ok,List.map_toArray,List.map_cons,List.map_nil,hs,hx,hrun]
 refine (h v' w' ⟨vs ++ cs.toList,k1,?_⟩ hg (by simpa using k3))
 refine (h2.keep fun b hb=>hg.block b (hin b hb).1 (hin b hb).2).snoc (t.keep hr fun b hb=>hg.block b (hin b hb).1 (hin b hb).2)
end
section
variable {P:Program} {o:Oper} {a:Act} {Q:Go.Exit → Act → World → Prop} {T E:TypeId} {z:Value} {bytes base n m c:Nat} {v:Value} {k:IntKind} {l l2:List Int} {S:Nat → Prop}
theorem oper_extend {K:Act → World → Prop} {W:World} {ad:Addr} (s x:Operand) (ho:o.op=.call { callee:=.builtin .append,args:=#[s,x],argTypes:=#[T,T] }) (ei:EI P T E z 1 bytes)
  (hs:a.eval s=v) (own:Own (tInt k) W (fun _=>False) base E v n l) (hx:a.eval x=.slice (some ad) m c) (sl:Sl (tInt k) W S (some ad) m c l2)
  (h63:n+m≤maxLen) (hbytes:(n+m)*bytes≤140737488355328) (hbase:base≤W.heap.size)
  (h:∀ v' w',Own (tInt k) w' (fun _=>False) base E v' (n+m) (l ++ l2) → W.grownBy w' v.ownBlock → (v'.ownBlock=v.ownBlock ∨ v'.ownBlock=some W.heap.size) → K (a.put o.dst v') w') :
  Oper.wp P o a W K Q:=by
 obtain ⟨i,hi,hz0,hz1,hz2⟩:=info_parts ei.hi
 obtain ⟨vs,h1,h2⟩:=own.out
 have hl2:=sl.n_eq
 have hnews:∀ j u,(l2.map (Value.int k))[j]?=some u → W.cell? (ad.add j)=some u:=by
  intro j u hu
  rw [List.getElem?_map] at hu
  have hj:j < m:=by
   rcases Nat.lt_or_ge j m with h|h
   ·exact h
   ·rw [List.getElem?_eq_none (by omega)] at hu;cases hu
  obtain ⟨b,off,hA,_,_,hcell,_⟩:=sl.int_at j hj
  cases hA
  have hadd:(⟨b,off,none⟩:Addr).add j=⟨b,off+j,none⟩:=by unfold Addr.add;split <;> simp_all
  rw [hadd,hcell,List.getD_eq_getElem?_getD]
  rw [List.getElem?_eq_getElem (by omega)] at hu ⊢
  simpa using hu
 obtain ⟨v',w',hrun,k1,k2,_,k3⟩:=run_append_own_at (P:=P) W base T o.type E i z 1 bytes ei.ht hi hz0 hz1 hz2 ei.hz ei.hp v n vs h1 ad m c (l2.map (Value.int k))
  (by rw [List.length_map,hl2,Nat.mul_one]) hnews (by intro u hu;obtain ⟨y,_,rfl⟩:=List.mem_map.1 hu;rfl) h63 hbytes hbase
 unfold Oper.wp execOp
 simp only [ho,resolve,invoke,builtin,Sem.run_bind,Sem.run_pure,Result.andThen_ok,List.map_toArray,List.map_cons,List.map_nil,hs,hx,hrun]
 refine (h v' w' ⟨vs ++ l2.map (Value.int k),k1,?_⟩ k2 k3)
 exact (h2.keep fun b hb=>hb.elim).append (RowsOf.ints sl.inAll)
theorem oper_make0 {α:Type} {t:Ty α} {K:Act → World → Prop} {W:World} (lo co:Operand) (ho:o.op=Op.makeSlice T lo co) (ei:EI P T E z t.size bytes) (kl kc:IntKind) (hl:a.eval lo=.int kl 0) (hc:a.eval co=.int kc (c:Int))
  (b2:bytes*c≤281474976710656) (b3:c≤maxLen) (b4:base≤W.heap.size)
  (h:∀ w',Own t w' (fun _=>False) base E (.slice (some ⟨W.heap.size,0,none⟩) 0 c) 0 ([]:List α) → W.grownBy w' none → K (a.put o.dst (.slice (some ⟨W.heap.size,0,none⟩) 0 c)) w') :
  Oper.wp P o a W K Q:=by
 obtain ⟨i,hi,hz0,hz1,hz2⟩:=info_parts ei.hi
 obtain ⟨w',hrun,h1,hg⟩:=run_make_own (P:=P) W base T E i z t.size ei.ht hi hz0 hz1 kl kc c (by rw [hz2];exact b2) b3 b4
 unfold Oper.wp execOp
 simp only [ho,hl,hc,Sem.run_bind,hrun,Sem.run_pure,Result.andThen_ok]
 exact h w' ⟨[],h1,rfl⟩ hg
end
end Go.Proofs.YtjkmjpjknmghlaaGreat
namespace Go.Proofs.YtjkmjpjknmghlaaGreat
open Go
section
variable {P:Program} {ops:Array Oper} {Q:Exit → Act → World → Prop} {md:Region.Mode} {C:World → Prop} {k0:Nat}
theorem wpAnyT_last {o:Oper} {fuel:Nat} {listed:Array Bool} {a:Act} {w:World} (hr:Region.ready md ops listed=[k0]) (ho:ops[k0]?=some o)
  (h:∀ K':Act → World → Prop,Shut (∀ a w,wpAny P md ops Q fuel (listed.setIfInBounds k0 true) a w → K' a w) → if Region.wanted o (yielded ops a.tmps)=true then Oper.wp P o a w K' Q else K' (a.put o.dst undef) w) :
  wpAnyT P md ops Q C k0 (fuel+1) listed a w:=by
 refine ⟨fun h0=>(by rw [hr] at h0;cases h0),fun j hj=>?_⟩
 rw [hr] at hj
 obtain rfl:j=k0:=by simpa using hj
 refine wpOp_step ho (fun K' hK=>h K' (fun a w hW=>hK a w ?_))
 rw [if_pos rfl]
 exact hW
theorem wpAny_one {i:Nat} {o:Oper} {fuel:Nat} {listed:Array Bool} {a:Act} {w:World} (hr:Region.ready md ops listed=[i]) (ho:ops[i]?=some o)
  (h:∀ K':Act → World → Prop,Shut (∀ a w,wpAny P md ops Q fuel (listed.setIfInBounds i true) a w → K' a w) → if Region.wanted o (yielded ops a.tmps)=true then Oper.wp P o a w K' Q else K' (a.put o.dst undef) w) :
  wpAny P md ops Q (fuel+1) listed a w:=by
 refine ⟨fun h0=>(by rw [hr] at h0;cases h0),fun j hj=>?_⟩
 rw [hr] at hj
 obtain rfl:j=i:=by simpa using hj
 exact wpOp_step ho (fun K' hK=>h K' (fun a w hW=>hK a w hW))
end
end Go.Proofs.YtjkmjpjknmghlaaGreat
namespace Go.Proofs.YtjkmjpjknmghlaaGreat
open Go.RowKit Go.ChangeShapes Go.WideShapes Go.Deep Go.ChangeAt
section
variable {H:Type} {enc:TypeId × Value → H} {P:Program}
theorem trodAll_below (hl:laidOutB P=true) {W W':World} (hb:Below W.heap.size W W'):∀ {ts:List TypeId} {vs:List Value} {ds:List (DataW H)} {p:List MemPlace},
  (ts.all fun t=>P.readableRec t && decide (t < P.types.size))=true → DataW.TrodAll enc P W 0 (fun _=>true) true ts vs ds p → (∀ x ∈ p,x.block < W.heap.size) →
  DataW.TrodAll enc P W' 0 (fun b=>decide (b < W.heap.size)) true ts vs ds p
 | [],vs,ds,p,_,h,_=>by obtain ⟨rfl,rfl,rfl⟩:=trodAll_nil h;exact trodAll_mk0
 | t :: ts,vs,ds,p,ht,h,hlt=>by
  obtain ⟨v,vs',d,ds',p1,q1,rfl,rfl,rfl,h1,h2⟩:=trodAll_cons h
  simp only [List.all_cons,Bool.and_eq_true,decide_eq_true_eq] at ht
  exact ⟨p1,q1,Below.trod hl ht.1.1 ht.1.2 h1 hb (fun x hx=>hlt x (by simp [hx])),trodAll_below hl hb (by simpa using ht.2) h2 (fun x hx=>hlt x (by simp [hx])),rfl⟩
theorem trodAll_length:∀ {w:World} {base:Nat} {spare:Nat → Bool} {held:Bool} {ts:List TypeId} {vs:List Value} {ds:List (DataW H)} {p:List MemPlace},DataW.TrodAll enc P w base spare held ts vs ds p → vs.length=ts.length∧ds.length=ts.length
 | _,_,_,_,[],_,_,_,h=>by obtain ⟨rfl,rfl,rfl⟩:=trodAll_nil h;exact ⟨rfl,rfl⟩
 | _,_,_,_,_ :: _,_,_,_,h=>by
  obtain ⟨v,vs',d,ds',p1,q1,rfl,rfl,rfl,h1,h2⟩:=trodAll_cons h
  obtain ⟨a,b⟩:=trodAll_length h2
  simp [a,b]
theorem law_lift {C:Checked} {os:Os} {f:FuncId} {fn:Func} {s:ChangeSpec} {T:TypeId}
  (own:ownKnob C.prog.godebug=none) (started:os.Started) (noInit:C.prog.inits.idxOf? f=none) (hfn:C.prog.funcs[f]?=some fn)
  (witness:∃ (w:World) (tape:Tape) (i:Input),w.os=os∧(w.forCall tape i).Shaped C.prog∧i.vars=[]∧Input.okWide C.prog (w.forCall tape i) .any w.heap.size f i ∧
   s.pre6 enc C.prog fn [] false (w.forCall tape i).memory i.args∧({}:Assume).holds C.prog (lone (Frame.enter C.prog f i.args .normal) [] (w.forCall tape i)))
  (hl:laidOutB C.prog=true) (hpar:(fn.params.toList.all fun t=>C.prog.readableRec t && decide (t < C.prog.types.size))=true)
  (hres:fn.resultTypes=#[T]) (hT:C.prog.underlying T=some .bool) (hv:s.vars=[])
  (hs:∀ (ds:List (DataW H)),ds.length=fn.params.size → (s.fn H ds).results=[.lit (.bool true)]∧(s.fn H ds).args=ds∧(s.fn H ds).vars=[])
  (walk:∀ (W:World) (base:Nat) (args:Array Value) (ds:List (DataW H)) (p:List MemPlace),
   (∀ (j:Nat) t v,fn.params[j]?=some t → args[j]?=some v → Value.okWide C.prog W .any base t v) →
   DataW.TrodAll enc C.prog W 0 (fun _=>true) true fn.params.toList args.toList ds p →
   Calls C.prog f args W fun e W'=>e=.returned (.bool true)∧Below W.heap.size W W') :
  ReturnsInHanded {} C os f .any (s.pre6 enc C.prog fn [] false) (s.post enc C.prog fn false true false false):=by
 refine returnsInHanded_of_change own started noInit hfn witness ?_
 intro W base args ds gs before hval hW _ _
 have hW':=hW
 obtain ⟨p,q,hA,hV,rfl,hfz,hnd⟩:=hW
 rw [hv] at hV
 obtain ⟨rfl,rfl⟩:=trodVars_none hV
 refine (walk W base args ds p hval hA).mono fun e W' ⟨he,hb⟩=>⟨_,he,?_⟩
 obtain ⟨e1,e2,e3⟩:=hs ds (by have:=(trodAll_length hA).2;simpa using this)
 have hlt:∀ x ∈ p,x.block < W.heap.size:=fun x hx=>hW'.lt x (by simp [hx])
 refine ⟨ds,[],p ++ [],[],p,[],hW',?_,?_,?_,hb.frame _,fun h=>by cases h⟩
 ·rw [hres,List.append_nil,e1]
  exact trodAll_mk1 (shut_bool hT true)
 ·rw [List.append_nil,e2]
  exact trodAll_below hl hb hpar hA hlt
 ·rw [List.append_nil,e3,hv]
  exact rfl
variable {w:World} {spare:Nat → Bool} {held:Bool} {base:Nat}
theorem arg_slice {α:Type} {T E:TypeId} {t:Ty α} {r:Reach} {b0:Nat} {v:Value} {d:DataW H} {p:List MemPlace} (hT:P.underlying T=some (.slice E)) (ho:Opens P T (tSlice t)) (hv:Value.okWide P w r b0 T v) (h:DataW.Trod enc P w base spare held T v d p) :
  ∃ A n cap l,v=.slice A n cap∧Sl t w (blo w.heap.size) A n cap l:=by
 obtain ⟨A,n,cap,rfl⟩:=okWide_slice hT hv
 obtain ⟨l,hl⟩:=ho.trod h
 exact ⟨A,n,cap,l,rfl,Sl.of_rep hl⟩
theorem arg_struct {α:Type} {T:TypeId} {fs:Array Field} {t:Ty α} {r:Reach} {b0:Nat} {v:Value} {d:DataW H} {p:List MemPlace} (hT:P.underlying T=some (.struct fs)) (ho:Opens P T t) (hv:Value.okWide P w r b0 T v) (h:DataW.Trod enc P w base spare held T v d p) :
  ∃ cs y,v=.agg cs∧t.rep w (blo w.heap.size) cs.toList y:=by
 obtain ⟨cs,rfl,_⟩:=okWide_struct hT hv
 obtain ⟨y,hy⟩:=ho.trod h
 exact ⟨cs,y,rfl,hy⟩
theorem arg_int {T:TypeId} {k:IntKind} {r:Reach} {b0:Nat} {v:Value} {d:DataW H} {p:List MemPlace} (hT:P.underlying T=some (.int k)) (hv:Value.okWide P w r b0 T v) (h:DataW.Trod enc P w base spare held T v d p) :
  ∃ n,v=.int k n∧InK k n:=by
 obtain ⟨n,rfl,_,_,hw⟩:=open_int hT hv h
 exact ⟨n,rfl,by simp only [Lit.wf,Bool.and_eq_true,decide_eq_true_eq] at hw;exact hw⟩
theorem arg_bool {T:TypeId} {r:Reach} {b0:Nat} {v:Value} {d:DataW H} {p:List MemPlace} (hT:P.underlying T=some .bool) (hv:Value.okWide P w r b0 T v) (h:DataW.Trod enc P w base spare held T v d p) :
  ∃ b,v=.bool b:=by
 obtain ⟨b,rfl,_⟩:=open_bool hT hv h
 exact ⟨b,rfl⟩
theorem arg_str {T:TypeId} {r:Reach} {b0:Nat} {v:Value} {d:DataW H} {p:List MemPlace} (hT:P.underlying T=some .string) (hv:Value.okWide P w r b0 T v) (h:DataW.Trod enc P w base spare held T v d p) :
  ∃ s:ByteArray,v=.string s∧s.size≤maxLen:=by
 obtain ⟨s,rfl⟩:=okWide_string hT hv
 obtain ⟨fuel,hf⟩:=h
 obtain ⟨s',e,_,hs⟩:=DataW.trod_string hT hf
 simp only [Value.cells,List.cons.injEq,Value.string.injEq,and_true] at e
 subst e
 exact ⟨s,rfl,hs⟩
end
end Go.Proofs.YtjkmjpjknmghlaaGreat
namespace Go.Proofs.YtjkmjpjknmghlaaGreat
open Go
theorem wp_scope_fore {P:Program} {a:Act} {w:World} {Q:Exit → Act → World → Prop} {c rest:Code} (l:Nat) (hf:findLabel c l=some rest)
  (first:c.wp P (Exit.jump l (fun a' w'=>rest.wp P (Exit.noGoto Q) a' w') Q) a w):(Code.scope c).wp P Q a w:=by
 refine wp_scope_jumps l _ (fun _ _=>0) hf first fun a' w' h=>?_
 intro b k cs
 obtain ⟨e,a₁,w₁,hq,harr⟩:=h b k cs
 refine ⟨e,a₁,w₁,?_,harr⟩
 cases e with
 | goto l'=>exact hq.elim
 | normal=>exact hq
 | exit id=>exact hq
 | ret=>exact hq
 | panic ch=>exact hq
 | outgrown=>exact hq
end Go.Proofs.YtjkmjpjknmghlaaGreat
namespace Go.Proofs.YtjkmjpjknmghlaaGreat
open Go
section
variable {P:Program} {ops:Array Oper} {Q:Exit → Act → World → Prop} {l n:Nat}
def noDefer (ops:Array Oper):Bool:=ops.all fun o=>match o.op with|.defer _=>false|_=>true
theorem upon_round (o:Oper) (a:Act) (K:Act → World → Prop) (r:Result Next) (h:o.upon P a K Q r) (K':Act → World → Prop) (hK:∀ a w,K a w → K' a w):o.uponIn (Fence.wide.inRound l) n P a K' Q r:=by
 cases r with
 | ok x w' =>
  cases x with
  | value v=>exact hK _ _ h
  | skip=>exact hK _ _ h
  | defer d=>exact hK _ _ h
  | enter f args =>
   refine ⟨(fun h=>by cases h),CallsIn.inRound l (callsIn_wide.2 (Calls.mono h ?_))⟩
   intro e w'' he
   cases e with
   | returned v=>exact hK _ _ he
   | panicked chain=>exact he
   | outgrown=>exact he
  | row row args =>
   refine ⟨(fun h=>by cases h),fun c cs _=>?_⟩
   obtain ⟨v,w'',hr,hs⟩:=h c cs
   exact ⟨v,w'',hK _ _ hr,stepsIn_wide.2 hs⟩
  | _=>exact h.elim
 | halt x w' =>
  cases x with
  | panic v=>exact h
  | _=>exact h.elim
theorem wpOps_round (hd:noDefer ops=true) (hq:¬ LetsOut Q):∀ (s:List Nat) (a:Act) (w:World),wpOps P ops Q s a w → wpOpsIn (Fence.wide.inRound l) n P ops Q s a w
 | [],_,_,h=>h
 | i :: rest,a,w,h=>by
  simp only [wpOps] at h
  simp only [wpOpsIn]
  cases ho:ops[i]? with
  | none=>rw [ho] at h;exact wpOps_round hd hq rest _ _ h
  | some o =>
   rw [ho] at h
   simp only at h ⊢
   by_cases hw:Region.wanted o (yielded ops a.tmps)=true
   ·rw [if_pos hw] at h ⊢
    rcases h with h|h
    ·refine ⟨fun _ _=>trivial,?_⟩
     have hnd:∀ c,o.op ≠ .defer c:=by
      intro c e
      have:=Array.all_eq_true_iff_forall_mem.1 hd o (Array.mem_of_getElem? ho)
      rw [e] at this
      cases this
     show o.uponIn _ n P a _ Q ((o.semAt (some l) a.eval).run P w)
     rw [Oper.semAt_eq _ _ _ hnd]
     exact upon_round o a _ _ h _ (wpOps_round hd hq rest)
    ·exact absurd h.2 hq
   ·rw [if_neg hw] at h ⊢
    exact ⟨fun _ _=>trivial,wpOps_round hd hq rest _ _ h⟩
theorem wpIn_round_T {id:Nat} {a:Act} {w:World} (C:World → Prop) (k0:Nat) (hm:P.follows .mixedOrders=true) (hd:noDefer ops=true) (hq:¬ LetsOut Q) (hS:C w.drew)
  (h:C w.drew → wpAnyT P .any ops Q C k0 ops.size (Array.replicate ops.size false) a w.drew):(Code.region id ops true).wpIn (Fence.wide.inRound l) n P Q a w :=
 wpIn_region_draw fun t=>wpOps_round hd hq _ _ _ (by
  simp only [Region.schedule,hm,Bool.true_or,if_true]
  exact wpAny_sound ops.size t _ a _ (wpAny_of_T _ _ _ _ (h hS)))
end
end Go.Proofs.YtjkmjpjknmghlaaGreat
namespace Go.Proofs.YtjkmjpjknmghlaaGreat
open Go
section
variable {P:Program} {ops:Array Oper} {Q:Exit → Act → World → Prop} {o:Oper} {a:Act} {k:IntKind} {w:World} {base q N:Nat} {E:TypeId} {L:List Int}
theorem own_copied (own:Own (tInt k) w (fun _=>False) base E (.slice (some ⟨q,0,none⟩) N N) N L) (off:Nat) (xs:List Int) (hx:∀ x ∈ xs,InK k x) (hfit:off+xs.length≤N) :
  ∃ cur:Array Value,w.heap[q]?=some (.cells cur E (0,0))∧cur.size=N∧∀ w',w'=w.setRow q (cur.toList.take off ++ (xs.map (Value.int k) ++ cur.toList.drop (off+xs.length))).toArray →
   Own (tInt k) w' (fun _=>False) base E (.slice (some ⟨q,0,none⟩) N N) N (splice L off xs)∧w.grownBy w' (some q):=by
 obtain ⟨vs,⟨h1,h2⟩,h3⟩:=own.out
 obtain ⟨e1,e2⟩:=h3.ints_iff
 rcases h2 with ⟨e,-⟩|⟨g,cap,cur,e,hb,hg,hc,hm,hs,ht⟩
 ·cases e
 ·injection e with e e' e''
  injection e with e
  injection e with e
  subst e e''
  have sz:(tInt k).size=1:=rfl
  rw [sz,Nat.mul_one] at hs ht h1
  have hcl:cur.toList=L.map (Value.int k):=by
   rw [← e1,← ht,List.take_of_length_le (by rw [Array.length_toList];omega)]
  refine ⟨cur,hg,hs,?_⟩
  rintro w' rfl
  have hl:(splice L off xs).length=N:=by
   have:L.length=N:=by rw [← h1,e1,List.length_map]
   rw [length_splice _ _ _ (by omega),this]
  have hrow:(cur.toList.take off ++ (xs.map (Value.int k) ++ cur.toList.drop (off+xs.length)))=(splice L off xs).map (Value.int k):=by
   rw [hcl];simp [splice]
  rw [hrow]
  refine ⟨⟨(splice L off xs).map (Value.int k),⟨by rw [List.length_map,hl,sz,Nat.mul_one],.inr ⟨q,N,((splice L off xs).map (Value.int k)).toArray,rfl,hb,setRow_heap w q _ _ E _ hg,Nat.le_refl _,hm,by simp [hl,sz],by rw [sz,Nat.mul_one,List.take_of_length_le (by simp [hl])]⟩⟩,RowsOf.ints ?_⟩,⟨rfl,rfl,rfl,by simp [World.setRow],fun j _ hj=>setRow_other w q j _ (fun e=>hj (by rw [e]))⟩⟩
  intro x hxm
  unfold splice at hxm
  rcases List.mem_append.1 hxm with h|h
  ·exact e2 x (List.mem_of_mem_take h)
  ·rcases List.mem_append.1 h with h|h
   ·exact hx x h
   ·exact e2 x (List.mem_of_mem_drop h)
theorem oper_copyO {K:Act → World → Prop} (d s:Operand) (dT sT:TypeId) (ho:o.op=.call { callee:=.builtin .copy,args:=#[d,s],argTypes:=#[dT,sT] }) (elem:TypeId) (hu:P.underlying dT=some (.slice elem)) (hsz:(P.info? elem).map (·.size)=some 1)
  (own:Own (tInt k) w (fun _=>False) base E (.slice (some ⟨q,0,none⟩) N N) N L) (off dLen dCap:Nat) (hd:a.eval d=.slice (some ⟨q,off,none⟩) dLen dCap) (ad:Addr) (sLen sCap:Nat) (hs:a.eval s=.slice (some ad) sLen sCap)
  (xs:List Int) (hx:∀ x ∈ xs,InK k x) (hn:xs.length=Nat.min sLen dLen) (hsrc:∀ j,j < xs.length → w.cell? (ad.add j)=some (.int k (xs.getD j 0))) (hfit:off+xs.length≤N)
  (h:∀ w',Own (tInt k) w' (fun _=>False) base E (.slice (some ⟨q,0,none⟩) N N) N (splice L off xs) → w.grownBy w' (some q) → K (a.put o.dst (goInt xs.length)) w'):Oper.wp P o a w K Q:=by
 obtain ⟨cur,hg,hc,hw⟩:=own_copied own off xs hx hfit
 have hrun:=run_copy_row (P:=P) w dT sT o.type elem q off dLen dCap ad sLen sCap cur E (xs.map (Value.int k)) hu hsz hg (by simpa using hn) (fun j v hv=>by
  rw [List.getElem?_map] at hv
  have hj:j < xs.length:=by
   cases e:xs[j]? with
   | none=>rw [e] at hv;cases hv
   | some y=>exact (List.getElem?_eq_some_iff.1 e).1
  rw [hsrc j hj,← hv,List.getD_eq_getElem?_getD,List.getElem?_eq_getElem hj];rfl) (by simpa [hc] using hfit) (by intro v hv;obtain ⟨y,-,rfl⟩:=List.mem_map.1 hv;rfl)
 obtain ⟨h1,h2⟩:=hw _ rfl
 have:=h _ h1 h2
 unfold Oper.wp
 simp only [List.length_map] at hrun
 simp [execOp,ho,resolve,invoke,builtin,hd,hs,hrun,Result.andThen]
 exact this
theorem wpList_copyO {rest:List Oper} (hgd:o.guard=none) (d s:Operand) (dT sT:TypeId) (ho:o.op=.call { callee:=.builtin .copy,args:=#[d,s],argTypes:=#[dT,sT] }) (elem:TypeId) (hu:P.underlying dT=some (.slice elem)) (hsz:(P.info? elem).map (·.size)=some 1)
  (own:Own (tInt k) w (fun _=>False) base E (.slice (some ⟨q,0,none⟩) N N) N L) (off dLen dCap:Nat) (hd:a.eval d=.slice (some ⟨q,off,none⟩) dLen dCap) (ad:Addr) (sLen sCap:Nat) (hs:a.eval s=.slice (some ad) sLen sCap)
  (xs:List Int) (hx:∀ x ∈ xs,InK k x) (hn:xs.length=Nat.min sLen dLen) (hsrc:∀ j,j < xs.length → w.cell? (ad.add j)=some (.int k (xs.getD j 0))) (hfit:off+xs.length≤N)
  (h:∀ w',Own (tInt k) w' (fun _=>False) base E (.slice (some ⟨q,0,none⟩) N N) N (splice L off xs) → w.grownBy w' (some q) → wpList P ops Q rest (a.put o.dst (goInt xs.length)) w'):wpList P ops Q (o :: rest) a w :=
 wpList_plain hgd fun K hK=>oper_copyO d s dT sT ho elem hu hsz own off dLen dCap hd ad sLen sCap hs xs hx hn hsrc hfit fun w' h1 h2=>hK _ _ (h w' h1 h2)
end
end Go.Proofs.YtjkmjpjknmghlaaGreat
