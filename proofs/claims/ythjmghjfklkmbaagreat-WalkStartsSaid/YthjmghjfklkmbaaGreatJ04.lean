/-
  Facts taken over to a later world, each by one word ('.fut').
  One cell of a known block is stored, the world behind it opaque; facts taken over a store into another block.
  Facts that go over to later worlds, all at once.
  'append(l, r...)' where l is the call's own and r a slice of whole numbers.
  An empty row of a call's own.
  '==' of arrays of numbers, of 8 and of 4.
  Whole numbers below 2^53 as 64-bit floats: what bits stand for them; sums, differences, products that stay below are exact; complex numbers of such parts.
  Between which numbers sums lie (layer 24), as plain lists.
  A block that has grown, and grown again.
  A number held between two, and made one of 8 bits.
  '!=' of two structs in a region that only reads; a literal slice of several structs (laws for the operations).
  Tensors that may be (layer 5).
  tensor (layer 5): what a right tensor is.
  slices.Clone at []int; rows of numbers that are alike (layer 22's Same).
-/
import Derived.Laws.AppendOwnNone
import Derived.StillTailTactics
import Derived.Test.YthjmghjfklkmbaaGreatJ03
set_option linter.unusedVariables false
set_option linter.unusedSimpArgs false
namespace Go.Proofs.YthjmghjfklkmbaaGreat
open Go.RowKit Go.ChangeShapes Go.WideShapes
set_option maxRecDepth 100000
theorem Sl.fut {α:Type} {t:Ty α} {w w':World} {A:Option Addr} {n cap:Nat} {l:List α} (h:Sl t w (blo w.heap.size) A n cap l) (hb:Below w.heap.size w w'):Sl t w' (blo w'.heap.size) A n cap l:=h.later hb (Nat.le_refl _)
structure Far (w0 w:World):Prop where
 out:Below w0.heap.size w0 w
theorem Far.refl (w:World):Far w w:=⟨Below.refl _ _⟩
theorem Far.fut {w0 w w':World} (h:Far w0 w) (hb:Below w.heap.size w w'):Far w0 w':=⟨below_later hb h.out⟩
theorem Far.size {w0 w:World} (h:Far w0 w):w0.heap.size≤w.heap.size:=h.out.size
theorem Far.drewN {w0 w:World} (h:Far w0 w) (n:Nat):Far w0 (w.drewN n):=⟨below_drewN h.out n⟩
theorem Blk.fut {w w':World} {g:Nat} {e:TypeId} {cs:Array Value} (h:Blk w g e cs) (hb:Below w.heap.size w w'):Blk w' g e cs:=h.later hb
theorem Sl.old {α:Type} {t:Ty α} {w:World} {m:Nat} {A:Option Addr} {n cap:Nat} {l:List α} (h:Sl t w (bin m w.heap.size) A n cap l):Sl t w (blo w.heap.size) A n cap l:=h.more bin_blo
theorem Sl.since {α:Type} {t:Ty α} {w0 w w':World} {A:Option Addr} {n cap:Nat} {l:List α} (h:Sl t w' (bin w.heap.size w'.heap.size) A n cap l) (hf:Far w0 w):Sl t w' (bin w0.heap.size w'.heap.size) A n cap l:=h.more (bin_more hf.size (Nat.le_refl _))
structure New (w0:World) {α:Type} (t:Ty α) (w:World) (A:Option Addr) (n cap:Nat) (l:List α):Prop where
 out:Sl t w (bin w0.heap.size w.heap.size) A n cap l
theorem New.fut {w0:World} {α:Type} {t:Ty α} {w w':World} {A:Option Addr} {n cap:Nat} {l:List α} (h:New w0 t w A n cap l) (hb:Below w.heap.size w w'):New w0 t w' A n cap l :=
 ⟨(h.out.below hb fun _ k=>k.2).more (bin_more (Nat.le_refl _) hb.size)⟩
theorem New.old {w0:World} {α:Type} {t:Ty α} {w:World} {A:Option Addr} {n cap:Nat} {l:List α} (h:New w0 t w A n cap l):Sl t w (blo w.heap.size) A n cap l:=h.out.old
theorem New.set {w0:World} {α:Type} {t:Ty α} {w:World} {A:Option Addr} {n cap:Nat} {l:List α} (h:New w0 t w A n cap l) (p:Addr) (u:Value) (hp:p.block < w0.heap.size):New w0 t (w.setCell p u) A n cap l :=
 ⟨(h.out.keep fun b hb=>Below.heap_setCell w p u b (by have:=hb.1;omega)).more fun b hb=>⟨hb.1,by simpa using hb.2⟩⟩
theorem Far.set {w0 w:World} (h:Far w0 w) (p:Addr) (u:Value) (hp:w0.heap.size≤p.block):Far w0 (w.setCell p u):=⟨h.out.setCell hp _⟩
theorem Far.trans {w0 w1 w2:World} (h:Far w0 w1) (h':Far w1 w2):Far w0 w2:=⟨below_later h'.out h.out⟩
theorem New.since {w0 w1:World} {α:Type} {t:Ty α} {w:World} {A:Option Addr} {n cap:Nat} {l:List α} (h:New w1 t w A n cap l) (hf:Far w0 w1):Sl t w (bin w0.heap.size w.heap.size) A n cap l:=h.out.more (bin_more hf.size (Nat.le_refl _))
theorem New.of {w0 w w':World} {α:Type} {t:Ty α} {A:Option Addr} {n cap:Nat} {l:List α} (h:Sl t w' (bin w.heap.size w'.heap.size) A n cap l) (hf:Far w0 w):New w0 t w' A n cap l:=⟨h.since hf⟩
theorem New.nil (w0:World) {α:Type} (t:Ty α) (w:World):New w0 t w none 0 0 ([]:List α):=⟨Sl.nil _ _ _⟩
end Go.Proofs.YthjmghjfklkmbaaGreat
namespace Go.Proofs.YthjmghjfklkmbaaGreat
open Go Go.RowKit
theorem Blk.away {w w':World} {g m:Nat} {e:TypeId} {cs:Array Value} (h:Blk w g e cs) (hg:w.grownBy w' (some m)) (hne:g < m ∨ m < g):Blk w' g e cs :=
 ⟨(hg.block g h.lt (fun e=>by have:=Option.some.inj e;omega)).trans h.heap⟩
theorem Far.away {w0 w w':World} {m:Nat} (h:Far w0 w) (hg:w.grownBy w' (some m)) (hm:w0.heap.size≤m):Far w0 w' :=
 ⟨h.out.grown hg h.out.size (fun k hk=>by have:=Option.some.inj hk;omega)⟩
theorem New.away {w0:World} {α:Type} {t:Ty α} {w w':World} {A:Option Addr} {n cap m:Nat} {l:List α} (h:New w0 t w A n cap l) (hg:w.grownBy w' (some m)) (hm:m < w0.heap.size):New w0 t w' A n cap l :=
 ⟨(h.out.keep fun b hb=>hg.block b hb.2 (fun e=>by have:=Option.some.inj e;have:=hb.1;omega)).more fun b hb=>⟨hb.1,Nat.lt_of_lt_of_le hb.2 hg.size⟩⟩
theorem Sl.away {α:Type} {t:Ty α} {w w':World} {n0 m:Nat} {A:Option Addr} {n cap:Nat} {l:List α} (h:Sl t w (blo n0) A n cap l) (hg:w.grownBy w' (some m)) (hm:n0≤m) (hn:n0≤w.heap.size):Sl t w' (blo n0) A n cap l :=
 h.keep fun b hb=>hg.block b (Nat.lt_of_lt_of_le hb hn) (fun e=>by have:=Option.some.inj e;have:b < n0:=hb;omega)
structure Old (w0:World) {α:Type} (t:Ty α) (w:World) (A:Option Addr) (n cap:Nat) (l:List α):Prop where
 out:Sl t w (blo w0.heap.size) A n cap l
 le:w0.heap.size≤w.heap.size
section
variable {w0 w w':World} {α:Type} {t:Ty α} {A:Option Addr} {n cap m:Nat} {l:List α}
theorem Old.now (h:Sl t w (blo w.heap.size) A n cap l):Old w t w A n cap l:=⟨h,Nat.le_refl _⟩
theorem Old.fut (h:Old w0 t w A n cap l) (hb:Below w.heap.size w w'):Old w0 t w' A n cap l:=⟨h.out.below hb (fun b hb=>Nat.lt_of_lt_of_le hb h.le),Nat.le_trans h.le hb.size⟩
theorem Old.away (h:Old w0 t w A n cap l) (hg:w.grownBy w' (some m)) (hm:w0.heap.size≤m):Old w0 t w' A n cap l :=
 ⟨h.out.keep fun b hb=>hg.block b (Nat.lt_of_lt_of_le hb h.le) (fun e=>by have:=Option.some.inj e;have:b < w0.heap.size:=hb;omega),Nat.le_trans h.le hg.size⟩
theorem Old.all (h:Old w0 t w A n cap l):Sl t w (blo w.heap.size) A n cap l:=h.out.more (blo_more h.le)
theorem Old.draw (h:Old w0 t w A n cap l):Old w0 t w.drew A n cap l:=⟨h.out.keep fun b hb=>rfl,h.le⟩
end
theorem Blk.draw {w:World} {g:Nat} {e:TypeId} {cs:Array Value} (h:Blk w g e cs):Blk w.drew g e cs:=h.drew
theorem Far.draw {w0 w:World} (h:Far w0 w):Far w0 w.drew:=⟨h.out.drew⟩
theorem New.draw {w0:World} {α:Type} {t:Ty α} {w:World} {A:Option Addr} {n cap:Nat} {l:List α} (h:New w0 t w A n cap l):New w0 t w.drew A n cap l:=⟨h.out.keep fun b hb=>rfl⟩
section
variable {P:Program} {ops:Array Oper} {rest:List Oper} {op:Oper} {a:Act} {w:World} {Q:Exit → Act → World → Prop}
theorem wpList_store_one (hgd:op.guard=none) (ty:TypeId) (x y:Operand) (ho:op.op=.store ty x y) (g off:Nat) (v:Value) (hx:a.eval x=.pointer (some ⟨g,off,none⟩)) (hy:a.eval y=v) (hv:v.cells=#[v]) (h1:v.oneCell'=true)
  (e:TypeId) (cs cs':Array Value) (hb:Blk w g e cs) (hfit:off < cs.size) (hi:(P.info? ty).map (·.size)=some 1) (hcs:cs'.toList=cs.toList.take off ++ [v] ++ cs.toList.drop (off+1))
  (h:∀ w',Blk w' g e cs' → w.grownBy w' (some g) → wpList P ops Q rest (a.put op.dst undef) w'):wpList P ops Q (op :: rest) a w:=by
 have hcs:=putAt_list (vs:=[v]) (o:=off) (cs:=cs) (cs':=cs') (by simp;omega) (by simpa using hcs)
 subst hcs
 have hrun:(storeVar ty ⟨g,off,none⟩ v).run P w=.ok () (w.setCells g off [v]):=by
  have:=run_storeCells_cells (P:=P) g off [v] 0 w (fun j hj=>by simp at hj;subst hj;rw [hb.cell];simp;omega) (fun j hj=>hb.frozen _) (fun u hu=>by simp at hu;subst hu;exact h1)
  cases hq:P.info? ty with
  | none=>simp [hq] at hi
  | some i =>
   have hs:i.size=1:=by simpa [hq] using hi
   simp only [Nat.add_zero] at this
   simp [storeVar,sizeOf,typeInfo,hq,hv,hs,this]
 refine wpList_plain hgd fun K hK=>?_
 unfold Oper.wp execOp
 simp only [ho,hx,hy,Instr.storeAt,Instr.sureAddr,Sem.run_bind,Sem.run_pure,Result.andThen_ok,hrun]
 exact hK _ _ (h _ (Blk.setCells _ _ _ _ hb) (grown_setCells _ _ _))
theorem oper_store_one {K:Act → World → Prop} (ty:TypeId) (x y:Operand) (ho:op.op=.store ty x y) (g off:Nat) (v:Value) (hx:a.eval x=.pointer (some ⟨g,off,none⟩)) (hy:a.eval y=v) (hv:v.cells=#[v]) (h1:v.oneCell'=true)
  (e:TypeId) (cs cs':Array Value) (hb:Blk w g e cs) (hfit:off < cs.size) (hi:(P.info? ty).map (·.size)=some 1) (hcs:cs'.toList=cs.toList.take off ++ [v] ++ cs.toList.drop (off+1))
  (h:∀ w',Blk w' g e cs' → w.grownBy w' (some g) → K (a.put op.dst undef) w'):op.wp P a w K Q:=by
 have hcs:=putAt_list (vs:=[v]) (o:=off) (cs:=cs) (cs':=cs') (by simp;omega) (by simpa using hcs)
 subst hcs
 have hrun:(storeVar ty ⟨g,off,none⟩ v).run P w=.ok () (w.setCells g off [v]):=by
  have:=run_storeCells_cells (P:=P) g off [v] 0 w (fun j hj=>by simp at hj;subst hj;rw [hb.cell];simp;omega) (fun j hj=>hb.frozen _) (fun u hu=>by simp at hu;subst hu;exact h1)
  cases hq:P.info? ty with
  | none=>simp [hq] at hi
  | some i =>
   have hs:i.size=1:=by simpa [hq] using hi
   simp only [Nat.add_zero] at this
   simp [storeVar,sizeOf,typeInfo,hq,hv,hs,this]
 unfold Oper.wp execOp
 simp only [ho,hx,hy,Instr.storeAt,Instr.sureAddr,Sem.run_bind,Sem.run_pure,Result.andThen_ok,hrun]
 exact h _ (Blk.setCells _ _ _ _ hb) (grown_setCells _ _ _)
end
end Go.Proofs.YthjmghjfklkmbaaGreat
namespace Go.Proofs.YthjmghjfklkmbaaGreat
open Go Go.RowKit
theorem rangeF {w w':World} {g o:Nat} {vs:List Value} (h:w.rangeAt g o vs) (hb:Below w.heap.size w w'):w'.rangeAt g o vs:=fun j v hv=>cell_later hb (h j v hv)
class Kp (w w':World) (A:Prop) (B:outParam Prop):Prop where
 fut:A → Below w.heap.size w w' → B
class St (w w':World) (m:Nat) (A:Prop) (B C:outParam Prop):Prop where
 away:A → w.grownBy w' (some m) → C → B
section
variable {w w':World} {A B X Y:Prop} {m:Nat} {C D:Prop} {w0:World} {α:Type} {t:Ty α} {p:Option Addr} {n cap:Nat} {l:List α} {g o:Nat} {e:TypeId} {cs:Array Value} {vs:List Value}
instance kpAnd [Kp w w' A B] [Kp w w' X Y]:Kp w w' (A∧X) (B∧Y):=⟨fun h hb=>⟨Kp.fut h.1 hb,Kp.fut h.2 hb⟩⟩
instance kpFar:Kp w w' (Far w0 w) (Far w0 w'):=⟨fun h hb=>h.fut hb⟩
instance kpOld:Kp w w' (Old w0 t w p n cap l) (Old w0 t w' p n cap l):=⟨fun h hb=>h.fut hb⟩
instance kpNew:Kp w w' (New w0 t w p n cap l) (New w0 t w' p n cap l):=⟨fun h hb=>h.fut hb⟩
instance kpBlk:Kp w w' (Blk w g e cs) (Blk w' g e cs):=⟨fun h hb=>h.fut hb⟩
instance kpRange:Kp w w' (w.rangeAt g o vs) (w'.rangeAt g o vs):=⟨rangeF⟩
instance stAnd [St w w' m A B C] [St w w' m X Y D]:St w w' m (A∧X) (B∧Y) (C∧D):=⟨fun h g c=>⟨St.away h.1 g c.1,St.away h.2 g c.2⟩⟩
instance stFar:St w w' m (Far w0 w) (Far w0 w') (w0.heap.size≤m):=⟨fun h g c=>h.away g c⟩
instance stOld:St w w' m (Old w0 t w p n cap l) (Old w0 t w' p n cap l) (w0.heap.size≤m):=⟨fun h g c=>h.away g c⟩
instance stNew:St w w' m (New w0 t w p n cap l) (New w0 t w' p n cap l) (m < w0.heap.size):=⟨fun h g c=>h.away g c⟩
instance stBlk:St w w' m (Blk w g e cs) (Blk w' g e cs) (g < m ∨ m < g):=⟨fun h k c=>h.away k c⟩
instance stRange:St w w' m (w.rangeAt g o vs) (w'.rangeAt g o vs) (g < m ∨ m < g):=⟨fun h k c j v hv=>by
 have h1:=h j v hv
 have hlt:=World.block_lt_of_cell? _ _ h1
 rw [World.cell?_of_block (k.block g hlt (fun e=>by have:=Option.some.inj e;omega))]
 exact h1⟩
theorem belowS {w w':World} {cs:Array Value} {e:TypeId} (k:(w.alloc (.cells cs e)).grownBy w' (some w.heap.size)):Below w.heap.size w w':=((Below.refl _ _).alloc (Nat.le_refl _) _).grown k (by simp) (fun j h=>by have:=Option.some.inj h;omega)
theorem sF {P:Program} {ops:Array Oper} {rest:List Oper} {op:Oper} {a:Act} {Q:Exit → Act → World → Prop} {cs0:Array Value} (ty:TypeId) (x y:Operand) (v:Array Value) (h:∀ w',Hid (Blk w' w.heap.size e v) → Below w.heap.size w w' → wpList P ops Q rest (a.put op.dst undef) w')
  (hgd:op.guard=none:=by rfl) (ho:op.op=.store ty x y:=by rfl) (hx:a.eval x=.pointer (some ⟨w.heap.size,0,none⟩):=by rfl) (hy:a.eval y=.agg v:=by rfl) (hn:cs0.size=v.size:=by rfl) (hi:(P.info? ty).map (·.size)=some v.size:=by kernel_rfl) (h1:v.all (·.oneCell')=true:=by rw [← Array.all_toList];rfl):wpList P ops Q (op :: rest) a (w.alloc (.cells cs0 e)) :=
 wpList_store_all hgd ty x y ho w.heap.size v hx hy e cs0 (Blk.now _ _ _ _ rfl) hn hi h1 fun w' b k=>h w' (zH b) (belowS k)
theorem rTCT {P:Program} {fn:Func} {R:Ending → World → Prop} {a:Act} {u p q:Tmp} {ty:TypeId} {fs:Array Field} (hb:Blk w g e cs) (hu:P.underlying ty=some (.struct fs)) (hR:R (.returned (.tuple #[a.tmps.getD u undef,.agg cs,a.tmps.getD q undef])) w)
  (h:fn.results=#[.tmp u,.cell p ty,.tmp q]:=by rfl) (hp:a.tmps.getD p undef=.pointer (some ⟨g,0,none⟩):=by rfl) (hi:(P.info? ty).map (·.size)=some cs.size:=by kernel_rfl) (hd:a.defers=[]:=by rfl):bodyPost P fn R .ret a w:=by
 refine bodyPost_ret (v:=.tuple #[a.tmps.getD u undef,.agg cs,a.tmps.getD q undef]) ?_ hd hR
 have hp':a.tmps[p]?.getD undef=.pointer (some ⟨g,0,none⟩):=by simpa using hp
 simp [results,h,Sem.run_bind,hp',run_asAddr_ptr,run_loadVar_row w g e ty cs (0,0) (.struct fs) hb.heap hu rfl hi,Result.andThen]
theorem lM {P:Program} {ops:Array Oper} {rest:List Oper} {op:Oper} {a:Act} {Q:Exit → Act → World → Prop} {d:TypeDesc} (ty:TypeId) (x:Operand) (r:w.rangeAt g o vs) (hu:P.underlying ty=some d) (h:wpList P ops Q rest (a.put op.dst (.agg vs.toArray)) w)
  (hgd:op.guard=none:=by rfl) (ho:op.op=.load ty x:=by rfl) (hx:a.eval x=.pointer (some ⟨g,o,none⟩):=by rfl) (hd:d.isRow=true:=by rfl) (hi:(P.info? ty).map (·.size)=some vs.length:=by kernel_rfl):wpList P ops Q (op :: rest) a w :=
 wpList_load_mid hgd ty x ho g o hx vs d r hu hd hi h
theorem zF (hb:Below w.heap.size w w') (h:Hid A) [Kp w w' A B]:Hid B:=zH (Kp.fut h.out hb)
theorem zD (w:World) (h:Hid A) [Kp w w.drew A B]:Hid B:=zF (Below.refl w.heap.size w).drew h
theorem zN (hb:Below w.heap.size w w') (h:Hid A) (r:Hid X) [Kp w w' A B]:Hid (B∧X):=zH ⟨Kp.fut h.out hb,r.out⟩
theorem zA (k:w.grownBy w' (some m)) (h:Hid A) [St w w' m A B C] (c:C:=by omega):Hid B:=zH (St.away h.out k c)
theorem zS {e':TypeId} {cs':Array Value} (k:w.grownBy w' (some m)) (b:Blk w' m e' cs') (h:Hid (A∧Blk w m e cs)) [St w w' m A B C] (c:C:=by omega):Hid (B∧Blk w' m e' cs'):=zH ⟨St.away h.out.1 k c,b⟩
end
end Go.Proofs.YthjmghjfklkmbaaGreat
namespace Go.Proofs.YthjmghjfklkmbaaGreat
open Go.RowKit Go.ChangeShapes Go.WideShapes
set_option maxRecDepth 100000
theorem Sl.inAll {k:IntKind} {w:World} {S:Nat → Prop} {A:Option Addr} {n cap:Nat} {l:List Int} (h:Sl (tInt k) w S A n cap l):∀ x ∈ l,InK k x:=by
 intro x hx
 obtain ⟨j,hj,rfl⟩:=List.getElem_of_mem hx
 have:=h.allK j
 rwa [List.getD_eq_getElem?_getD,List.getElem?_eq_getElem hj] at this
section
variable {P:Program} {ops:Array Oper} {rest:List Oper} {o:Oper} {a:Act} {Q:Exit → Act → World → Prop} {T E:TypeId} {z:Value} {bytes base n m c:Nat} {v:Value} {k:IntKind} {l l2:List Int} {A:Option Addr} {S:Nat → Prop}
theorem wpList_extend {W:World} (hgd:o.guard=none) (s x:Operand) (ho:o.op=.call { callee:=.builtin .append,args:=#[s,x],argTypes:=#[T,T] }) (ei:EI P T E z 1 bytes)
  (hs:a.eval s=v) (own:Own (tInt k) W (fun _=>False) base E v n l) (hx:a.eval x=.slice A m c) (sl:Sl (tInt k) W S A m c l2)
  (h63:n+m≤maxLen) (hbytes:(n+m)*bytes≤140737488355328) (hbase:base≤W.heap.size)
  (h:∀ v' w',Own (tInt k) w' (fun _=>False) base E v' (n+m) (l ++ l2) → W.grownBy w' v.ownBlock → (v'.ownBlock=v.ownBlock ∨ v'.ownBlock=some W.heap.size) → wpList P ops Q rest (a.put o.dst v') w') :
  wpList P ops Q (o :: rest) a W:=by
 obtain ⟨i,hi,hz0,hz1,hz2⟩:=info_parts ei.hi
 obtain ⟨vs,h1,h2⟩:=own.out
 have hl2:=sl.n_eq
 cases A with
 | none =>
  have hc:=sl.nil_ rfl
  have hm:=sl.cap_le
  obtain rfl:c=0:=hc
  obtain rfl:m=0:=by omega
  obtain rfl:l2=[]:=List.length_eq_zero_iff.1 hl2
  refine wpList_append_own_none hgd s x T ho base E i 1 ei.ht hi v n vs hs h1 hx ?_
  refine h v W ?_ ⟨rfl,rfl,rfl,Nat.le_refl _,fun _ _ _=>rfl⟩ (.inl rfl)
  rw [List.append_nil]
  exact own
 | some ad =>
  have hnews:∀ j u,(l2.map (Value.int k))[j]?=some u → W.cell? (ad.add j)=some u:=by
   intro j u hu
   rw [List.getElem?_map] at hu
   have hj:j < m:=by
    rcases Nat.lt_or_ge j m with h|h
    ·exact h
    ·rw [List.getElem?_eq_none (by omega)] at hu;cases hu
   obtain ⟨b,off,hA,_,_,hcell,_⟩:=sl.int_at j hj
   cases hA
   have hadd:(⟨b,off,none⟩:Addr).add j=⟨b,off+j,none⟩:=by unfold Addr.add;split <;> simp_all
   rw [hadd,hcell,List.getD_eq_getElem?_getD]
   rw [List.getElem?_eq_getElem (by omega)] at hu ⊢
   simpa using hu
  obtain ⟨v',w',hrun,k1,k2,_,k3⟩:=run_append_own_at (P:=P) W base T o.type E i z 1 bytes ei.ht hi hz0 hz1 hz2 ei.hz ei.hp v n vs h1 ad m c (l2.map (Value.int k))
   (by rw [List.length_map,hl2,Nat.mul_one]) hnews (by intro u hu;obtain ⟨y,_,rfl⟩:=List.mem_map.1 hu;rfl) h63 hbytes hbase
  refine wpList_plain hgd fun K hK=>?_
  unfold Oper.wp execOp
  simp only [ho,resolve,invoke,builtin,Sem.run_bind,Sem.run_pure,Result.andThen_ok,List.map_toArray,List.map_cons,List.map_nil,hs,hx,hrun]
  refine hK _ _ (h v' w' ⟨vs ++ l2.map (Value.int k),k1,?_⟩ k2 k3)
  exact (h2.keep fun b hb=>hb.elim).append (RowsOf.ints sl.inAll)
end
theorem Own.lit0 {W:World} {k:IntKind} {E:TypeId} {base:Nat} (hb:base≤W.heap.size):Own (tInt k) (W.alloc (.cells #[] E)) (fun _=>False) base E (.slice (some ⟨W.heap.size,0,none⟩) 0 0) 0 [] :=
 ⟨[],⟨rfl,.inr ⟨_,0,#[],rfl,hb,heap_alloc_new _ _,Nat.le_refl _,by decide,rfl,rfl⟩⟩,rfl⟩
end Go.Proofs.YthjmghjfklkmbaaGreat
namespace Go.Proofs.YthjmghjfklkmbaaGreat
open Go
theorem run_eql_arr4 {P:Program} {t e:TypeId} {k:IntKind} (w:World) (hT:P.underlying t=some (.array 4 e)) (hE:P.underlying e=some (.int k)) (hs:(P.info? e).map (·.size)=some 1) (hp:P.plainKey e=true) (a0 a1 a2 a3 b0 b1 b2 b3:Int) :
  (Op.equalIn 10000 t (.agg #[.int k a0,.int k a1,.int k a2,.int k a3]) (.agg #[.int k b0,.int k b1,.int k b2,.int k b3])).run P w=.ok ([a0,a1,a2,a3] == [b0,b1,b2,b3]) w:=by
 have hsz:(Go.sizeOf e).run P w=.ok 1 w:=by
  cases hq:P.info? e with
  | none=>simp [hq] at hs
  | some i =>
   have:i.size=1:=by simpa [hq] using hs
   simp [Go.sizeOf,typeInfo,hq,this]
 have hpart:∀ (xs:Array Value) (off:Nat),off < xs.size → (part e xs off).run P w=.ok xs[off]! w:=fun xs off h=>run_part_plain (w:=w) hp (by simp [h])
 have hq:∀ x y:Int,(Op.equalIn 9999 e (.int k x) (.int k y)).run P w=.ok (x == y) w:=fun x y=>by
  show (Op.equalIn (9998+1) e _ _).run P w=_
  exact run_equalIn_int w 9998 e k k x y hE
 show (Op.equalIn (9999+1) t _ _).run P w=_
 unfold Op.equalIn
 simp only [Sem.run_bind,run_underlying hT w,Result.andThen_ok]
 simp [Std.Legacy.Range.forIn_eq_forIn_range',Std.Legacy.Range.size,List.range',Sem.run_bind,hpart,hq,hsz]
 by_cases h0:a0=b0
 rotate_left
 ·simp [h0]
 subst h0
 try simp
 by_cases h1:a1=b1
 rotate_left
 ·simp [h1]
 subst h1
 try simp
 by_cases h2:a2=b2
 rotate_left
 ·simp [h2]
 subst h2
 try simp
 by_cases h3:a3=b3
 rotate_left
 ·simp [h3]
 subst h3
 try simp
theorem run_eql_arr8 {P:Program} {t e:TypeId} {k:IntKind} (w:World) (hT:P.underlying t=some (.array 8 e)) (hE:P.underlying e=some (.int k)) (hs:(P.info? e).map (·.size)=some 1) (hp:P.plainKey e=true) (a0 a1 a2 a3 a4 a5 a6 a7 b0 b1 b2 b3 b4 b5 b6 b7:Int) :
  (Op.equalIn 10000 t (.agg #[.int k a0,.int k a1,.int k a2,.int k a3,.int k a4,.int k a5,.int k a6,.int k a7]) (.agg #[.int k b0,.int k b1,.int k b2,.int k b3,.int k b4,.int k b5,.int k b6,.int k b7])).run P w=.ok ([a0,a1,a2,a3,a4,a5,a6,a7] == [b0,b1,b2,b3,b4,b5,b6,b7]) w:=by
 have hsz:(Go.sizeOf e).run P w=.ok 1 w:=by
  cases hq:P.info? e with
  | none=>simp [hq] at hs
  | some i =>
   have:i.size=1:=by simpa [hq] using hs
   simp [Go.sizeOf,typeInfo,hq,this]
 have hpart:∀ (xs:Array Value) (off:Nat),off < xs.size → (part e xs off).run P w=.ok xs[off]! w:=fun xs off h=>run_part_plain (w:=w) hp (by simp [h])
 have hq:∀ x y:Int,(Op.equalIn 9999 e (.int k x) (.int k y)).run P w=.ok (x == y) w:=fun x y=>by
  show (Op.equalIn (9998+1) e _ _).run P w=_
  exact run_equalIn_int w 9998 e k k x y hE
 show (Op.equalIn (9999+1) t _ _).run P w=_
 unfold Op.equalIn
 simp only [Sem.run_bind,run_underlying hT w,Result.andThen_ok]
 simp [Std.Legacy.Range.forIn_eq_forIn_range',Std.Legacy.Range.size,List.range',Sem.run_bind,hpart,hq,hsz]
 by_cases h0:a0=b0
 rotate_left
 ·simp [h0]
 subst h0
 try simp
 by_cases h1:a1=b1
 rotate_left
 ·simp [h1]
 subst h1
 try simp
 by_cases h2:a2=b2
 rotate_left
 ·simp [h2]
 subst h2
 try simp
 by_cases h3:a3=b3
 rotate_left
 ·simp [h3]
 subst h3
 try simp
 by_cases h4:a4=b4
 rotate_left
 ·simp [h4]
 subst h4
 try simp
 by_cases h5:a5=b5
 rotate_left
 ·simp [h5]
 subst h5
 try simp
 by_cases h6:a6=b6
 rotate_left
 ·simp [h6]
 subst h6
 try simp
 by_cases h7:a7=b7
 rotate_left
 ·simp [h7]
 subst h7
 try simp
theorem run_eql_st3 {P : Program} {t : TypeId} {f0 f1 f2 : Field} {k0 k1 k2 : IntKind} (w : World) (hT : P.underlying t = some (.struct #[f0, f1, f2])) (hst : P.stoodInHeld t = false) (hn : f0.name ≠ "_" ∧ f1.name ≠ "_" ∧ f2.name ≠ "_") (ho : f0.offset = 0 ∧ f1.offset = 1 ∧ f2.offset = 2)
  (h0:P.underlying f0.type=some (.int k0)) (h1:P.underlying f1.type=some (.int k1)) (h2:P.underlying f2.type=some (.int k2)) (p0:P.plainKey f0.type=true) (p1:P.plainKey f1.type=true) (p2:P.plainKey f2.type=true) (a0 a1 a2 b0 b1 b2:Int) :
  (Op.equalIn 10000 t (.agg #[.int k0 a0,.int k1 a1,.int k2 a2]) (.agg #[.int k0 b0,.int k1 b1,.int k2 b2])).run P w=.ok ([a0,a1,a2] == [b0,b1,b2]) w:=by
 have q0:∀ (xs:Array Value) (off:Nat),off < xs.size → (part f0.type xs off).run P w=.ok xs[off]! w:=fun xs off h=>run_part_plain (w:=w) p0 (by simp [h])
 have q1:∀ (xs:Array Value) (off:Nat),off < xs.size → (part f1.type xs off).run P w=.ok xs[off]! w:=fun xs off h=>run_part_plain (w:=w) p1 (by simp [h])
 have q2:∀ (xs:Array Value) (off:Nat),off < xs.size → (part f2.type xs off).run P w=.ok xs[off]! w:=fun xs off h=>run_part_plain (w:=w) p2 (by simp [h])
 have e0:∀ x y:Int,(Op.equalIn 9999 f0.type (.int k0 x) (.int k0 y)).run P w=.ok (x == y) w:=fun x y=>by
  show (Op.equalIn (9998+1) _ _ _).run P w=_
  exact run_equalIn_int w 9998 f0.type k0 k0 x y h0
 have e1:∀ x y:Int,(Op.equalIn 9999 f1.type (.int k1 x) (.int k1 y)).run P w=.ok (x == y) w:=fun x y=>by
  show (Op.equalIn (9998+1) _ _ _).run P w=_
  exact run_equalIn_int w 9998 f1.type k1 k1 x y h1
 have e2:∀ x y:Int,(Op.equalIn 9999 f2.type (.int k2 x) (.int k2 y)).run P w=.ok (x == y) w:=fun x y=>by
  show (Op.equalIn (9998+1) _ _ _).run P w=_
  exact run_equalIn_int w 9998 f2.type k2 k2 x y h2
 show (Op.equalIn (9999+1) t _ _).run P w=_
 unfold Op.equalIn
 simp only [Sem.run_bind,run_underlying hT w,Result.andThen_ok]
 simp [Sem.run_bind,q0,q1,q2,e0,e1,e2,hst,hn.1,hn.2.1,hn.2.2,ho.1,ho.2.1,ho.2.2,run_program]
 by_cases h0:a0=b0
 rotate_left
 ·simp [h0]
 subst h0
 try simp
 by_cases h1:a1=b1
 rotate_left
 ·simp [h1]
 subst h1
 try simp
 by_cases h2:a2=b2
 rotate_left
 ·simp [h2]
 subst h2
 try simp
theorem wpList_eql_agg {P:Program} {ops:Array Oper} {rest:List Oper} {o:Oper} {a:Act} {w:World} {Q:Exit → Act → World → Prop} (t u:TypeId) (x y:Operand) (ho:o.op=.binOp .eql t x y u) (xs ys:Array Value) (hx:a.eval x=.agg xs) (hy:a.eval y=.agg ys)
  (hw:Region.wanted o (yielded ops a.tmps)=true) (hm:P.eqGuardType P.depth t=false) (b:Bool) (hrun:(Op.equalIn 10000 t (.agg xs) (.agg ys)).run P w=.ok b w) (h:wpList P ops Q rest (a.put o.dst (.bool b)) w):wpList P ops Q (o :: rest) a w:=by
 refine BigFrame.wpList_want hw fun K hK=>?_
 unfold Oper.wp execOp
 simp only [ho,hx,hy,Sem.run_bind,fun w=>run_eqGuard_agg (P:=P) w .eql t x y xs ys hm,run_eql_struct,hrun,Result.andThen_ok,Sem.run_pure]
 exact hK _ _ (by simpa using h)
end Go.Proofs.YthjmghjfklkmbaaGreat
namespace Go.Proofs.YthjmghjfklkmbaaGreat.Fx
open Ieee
def Sd:Datum → Int → Prop
 | .number s m p,n=>m*2 ^ p.toNat=n.natAbs*2 ^ (-p).toNat∧(n ≠ 0 → s=decide (n < 0))
 | _,_=>False
theorem two_pos (k:Nat):0 < 2 ^ k:=Nat.two_pow_pos k
theorem Sd.zero {s:Bool} {m:Nat} {p:Int} (h:Sd (.number s m p) 0):m=0:=by
 have h1:=h.1
 have:=two_pos p.toNat
 rw [show (0:Int).natAbs=0 from rfl,Nat.zero_mul] at h1
 rcases Nat.mul_eq_zero.1 h1 with h|h <;> omega
theorem log_mul (m k:Nat) (h:m ≠ 0):(m*2 ^ k).log2=m.log2+k:=by
 have h1:=Nat.log2_self_le h
 have h2:=@Nat.lt_log2_self m
 have hp:=two_pos k
 have hne:m*2 ^ k ≠ 0:=Nat.mul_ne_zero h (by omega)
 apply Nat.le_antisymm
 ·apply Nat.le_of_lt_succ
  rw [Nat.log2_lt hne,show (m.log2+k).succ=(m.log2+1)+k by omega,Nat.pow_add]
  exact Nat.mul_lt_mul_of_pos_right h2 hp
 ·rw [Nat.le_log2 hne,Nat.pow_add]
  exact Nat.mul_le_mul_right _ h1
theorem cut_exact (way:Toward) (neg:Bool) (a d:Nat) (ha:a ≠ 0):way.cut neg (a*2 ^ d) d=a:=by
 have hl:(a*2 ^ d).log2=a.log2+d:=log_mul a d ha
 unfold Toward.cut
 rw [hl,Nat.min_eq_left (by omega),Nat.one_shiftLeft]
 simp only [Nat.mul_mod_left,Nat.mul_div_cancel _ (two_pos d)]
 have:=two_pos d
 cases way <;> simp <;> omega
theorem cut_zero (neg:Bool) (d:Nat) (way:Toward):way.cut neg 0 d=0:=by
 unfold Toward.cut
 simp only [Nat.zero_mod,Nat.zero_div]
 have h:∀ k,0 < 1 <<< k:=fun k=>by rw [Nat.one_shiftLeft];exact two_pos k
 have:=h (min d (Nat.log2 0+2))
 cases way <;> simp <;> omega
theorem word_read (s:Bool) (k e:Nat) (h1:2 ^ 52≤k) (h2:k < 2 ^ 53) (h3:e < 2000) :
  double.read (double.word s (min (e*double.binade+k) double.infRung))=.number s k (e - 1074):=by
 have hw:double.signWeight=2 ^ 63:=rfl
 have hb:double.binade=2 ^ 52:=rfl
 have hi:double.infRung=2047*2 ^ 52:=rfl
 have hl:double.leastPlace=-1074:=rfl
 have hm:min (e*double.binade+k) double.infRung=e*2 ^ 52+k:=by
  rw [hb,hi];omega
 rw [hm]
 have hlt:e*2 ^ 52+k < 2 ^ 63:=by omega
 have d1:(double.word s (e*2 ^ 52+k) / 2 ^ 63 % 2 == 1)=s:=by
  unfold Format.word
  rw [hw]
  cases s <;> simp <;> omega
 have d2:double.word s (e*2 ^ 52+k) % 2 ^ 63=e*2 ^ 52+k:=by
  unfold Format.word
  rw [hw]
  cases s <;> simp <;> omega
 unfold Format.read
 simp only [hw,hb,hi,hl,d1,d2]
 rw [if_neg (by omega),if_pos (by omega)]
 have e1:2 ^ 52+(e*2 ^ 52+k) % 2 ^ 52=k:=by omega
 have e2:(e*2 ^ 52+k) / 2 ^ 52 - 1=e:=by omega
 rw [e1,e2]
 congr 1
theorem Sd.write {d:Datum} {n:Int} (h:Sd d n) (hb:n.natAbs < 2 ^ 53):Sd (double.read (double.write d)) n:=by
 cases d with
 | infinity s=>exact h.elim
 | nan s t=>exact h.elim
 | number s m p =>
 show Sd (double.read (double.nearest s m p)) n
 by_cases hm:m=0
 ·subst hm
  have hn:n=0:=by
   have:=h.1
   have hp:=two_pos (-p).toNat
   rw [Nat.zero_mul] at this
   rcases Nat.mul_eq_zero.1 this.symm with h|h <;> omega
  subst hn
  unfold Format.nearest
  rw [if_pos rfl]
  have hz:double.read (double.word s 0)=.number s 0 (-1074):=by cases s <;> rfl
  rw [hz]
  refine ⟨?_,fun h=>absurd rfl h⟩
  rw [show (0:Int).natAbs=0 from rfl,Nat.zero_mul,Nat.zero_mul]
 ·have hn:n ≠ 0:=by
   rintro rfl
   exact hm h.zero
  obtain ⟨hv,hs⟩:=h
  have hN:n.natAbs ≠ 0:=by omega
  generalize hNe:n.natAbs=N at *
  have hlog:m.log2+p.toNat=N.log2+(-p).toNat:=by
   rw [← log_mul m _ hm,hv,log_mul N _ hN]
  have hL:N.log2 < 53:=(Nat.log2_lt hN).2 hb
  have hl:double.leastPlace=-1074:=rfl
  unfold Format.nearest
  rw [if_neg hm]
  have hlast:max (p+(m.log2:Int) - ((double.fractionBits:Nat):Int)) double.leastPlace=(N.log2:Int) - 52:=by
   rw [hl,show double.fractionBits=52 from rfl]
   omega
  simp only [hlast]
  have hk:Toward.even.cut s (m <<< (p - ((N.log2:Int) - 52)).toNat) (((N.log2:Int) - 52) - p).toNat=N*2 ^ (52 - N.log2):=by
   by_cases c:p≤(N.log2:Int) - 52
   ·have e1:(p - ((N.log2:Int) - 52)).toNat=0:=by omega
    have e2:p.toNat=0:=by omega
    rw [e2,Nat.pow_zero,Nat.mul_one] at hv
    rw [e1,Nat.shiftLeft_zero,hv,show (-p).toNat=(52 - N.log2)+(((N.log2:Int) - 52) - p).toNat by omega,Nat.pow_add,← Nat.mul_assoc]
    exact cut_exact _ _ _ _ (Nat.mul_ne_zero hN (by have:=two_pos (52 - N.log2);omega))
   ·have e1:(((N.log2:Int) - 52) - p).toNat=0:=by omega
    rw [e1,Nat.shiftLeft_eq]
    have:=cut_exact .even s (m*2 ^ (p - ((N.log2:Int) - 52)).toNat) 0 (Nat.mul_ne_zero hm (by have:=two_pos (p - ((N.log2:Int) - 52)).toNat;omega))
    rw [Nat.pow_zero,Nat.mul_one] at this
    rw [this]
    by_cases cp:0≤p
    ·rw [show (p - ((N.log2:Int) - 52)).toNat=p.toNat+(52 - N.log2) by omega,Nat.pow_add,← Nat.mul_assoc,hv,show (-p).toNat=0 by omega,Nat.pow_zero,Nat.mul_one]
    ·rw [show p.toNat=0 by omega,Nat.pow_zero,Nat.mul_one] at hv
     rw [hv,Nat.mul_assoc,← Nat.pow_add]
     congr 2
     omega
  rw [hk]
  have k1:2 ^ 52≤N*2 ^ (52 - N.log2):=by
   have:=Nat.log2_self_le hN
   have h2:=Nat.mul_le_mul_right (2 ^ (52 - N.log2)) this
   rw [← Nat.pow_add,show N.log2+(52 - N.log2)=52 by omega] at h2
   exact h2
  have k2:N*2 ^ (52 - N.log2) < 2 ^ 53:=by
   have:=@Nat.lt_log2_self N
   have h2:=Nat.mul_lt_mul_of_pos_right this (two_pos (52 - N.log2))
   rw [← Nat.pow_add,show N.log2+1+(52 - N.log2)=53 by omega] at h2
   exact h2
  have hd:(((N.log2:Int) - 52) - double.leastPlace).toNat=N.log2+1022:=by rw [hl];omega
  rw [hd,word_read s _ _ k1 k2 (by omega)]
  refine ⟨?_,hs⟩
  rw [hNe,show (((N.log2+1022:Nat):Int) - 1074).toNat=0 by omega,show (-(((N.log2+1022:Nat):Int) - 1074)).toNat=52 - N.log2 by omega,Nat.pow_zero,Nat.mul_one]
theorem Sd.opposite {d:Datum} {n:Int} (h:Sd d n):Sd d.opposite (-n):=by
 cases d with
 | infinity s=>exact h.elim
 | nan s t=>exact h.elim
 | number s m p =>
  refine ⟨by rw [Int.natAbs_neg];exact h.1,fun hn=>?_⟩
  have:=h.2 (by omega)
  rw [this]
  by_cases c:n < 0
  ·simp [c];omega
  ·simp [c];omega
theorem Sd.at_base {s:Bool} {m:Nat} {p:Int} {n:Int} (h:Sd (.number s m p) n) (b:Int) (hb:b≤p) :
  signed s m (p - b).toNat*2 ^ b.toNat=n*2 ^ (-b).toNat:=by
 have key:(m*2 ^ (p - b).toNat)*2 ^ b.toNat=n.natAbs*2 ^ (-b).toNat:=by
  have h1:=h.1
  by_cases c:0≤b
  ·rw [Nat.mul_assoc,← Nat.pow_add,show (p - b).toNat+b.toNat=p.toNat by omega,h1,show (-p).toNat=0 by omega,show (-b).toNat=0 by omega]
  ·by_cases cp:0≤p
   ·rw [show b.toNat=0 by omega,Nat.pow_zero,Nat.mul_one,show (p - b).toNat=p.toNat+(-b).toNat by omega,Nat.pow_add,← Nat.mul_assoc,h1,show (-p).toNat=0 by omega,Nat.pow_zero,Nat.mul_one]
   ·rw [show p.toNat=0 by omega,Nat.pow_zero,Nat.mul_one] at h1
    rw [h1,show b.toNat=0 by omega,Nat.pow_zero,Nat.mul_one,Nat.mul_assoc,← Nat.pow_add]
    congr 2
    omega
 have hz:n=0 → m=0:=fun e=>by subst e;exact h.zero
 unfold signed
 rw [Nat.shiftLeft_eq]
 have key':((m*2 ^ (p - b).toNat:Nat):Int)*2 ^ b.toNat=(n.natAbs:Int)*2 ^ (-b).toNat:=by
  have:=congrArg (fun x:Nat=>(x:Int)) key
  simpa [Int.natCast_mul,Int.natCast_pow] using this
 by_cases c:n=0
 ·have:=hz c
  subst c this
  simp
 ·have hs:=h.2 c
  by_cases cn:n < 0
  ·rw [if_pos (by simp [hs,cn]),Int.neg_mul,key',show (n.natAbs:Int)=-n by omega,Int.neg_mul,Int.neg_neg]
  ·rw [if_neg (by simp [hs,cn]),key',show (n.natAbs:Int)=n by omega]
theorem Sd.of_signed {t:Int} {b:Int} {n:Int} {s:Bool} (h:t*2 ^ b.toNat=n*2 ^ (-b).toNat) (hs:t ≠ 0 → s=decide (t < 0)) :
  Sd (.number s t.natAbs b) n:=by
 have h1:=congrArg Int.natAbs h
 rw [Int.natAbs_mul,Int.natAbs_mul,Int.natAbs_pow,Int.natAbs_pow] at h1
 refine ⟨h1,fun hn=>?_⟩
 have hp:(0:Int) < 2 ^ b.toNat:=Int.pow_pos (by omega)
 have hq:(0:Int) < 2 ^ (-b).toNat:=Int.pow_pos (by omega)
 have ht:t ≠ 0:=by
  rintro rfl
  rw [Int.zero_mul] at h
  rcases Int.mul_eq_zero.1 h.symm with h|h <;> omega
 rw [hs ht]
 congr 1
 apply propext
 constructor
 ·intro c
  have:n*2 ^ (-b).toNat < 0:=h ▸ Int.mul_neg_of_neg_of_pos c hp
  apply Int.not_le.1
  intro cn
  have:=Int.mul_nonneg cn (Int.le_of_lt hq)
  omega
 ·intro c
  have:t*2 ^ b.toNat < 0:=h ▸ Int.mul_neg_of_neg_of_pos c hq
  apply Int.not_le.1
  intro cn
  have:=Int.mul_nonneg cn (Int.le_of_lt hp)
  omega
theorem Sd.sum {d e:Datum} {m n:Int} (h:Sd d m) (k:Sd e n):∃ f,d.sum e=some f∧Sd f (m+n):=by
 cases d with
 | infinity s=>exact h.elim
 | nan s t=>exact h.elim
 | number s a p =>
 cases e with
 | infinity s=>exact k.elim
 | nan s t=>exact k.elim
 | number t b q =>
  refine ⟨_,rfl,?_⟩
  have h1:=h.at_base (min p q) (by omega)
  have h2:=k.at_base (min p q) (by omega)
  refine Sd.of_signed (by rw [Int.add_mul,h1,h2,Int.add_mul]) (fun hne=>?_)
  rw [if_neg hne]
theorem Sd.product {d e:Datum} {m n:Int} (h:Sd d m) (k:Sd e n):∃ f,d.product e=some f∧Sd f (m*n):=by
 cases d with
 | infinity s=>exact h.elim
 | nan s t=>exact h.elim
 | number s a p =>
 cases e with
 | infinity s=>exact k.elim
 | nan s t=>exact k.elim
 | number t b q =>
  refine ⟨_,rfl,?_,fun hne=>?_⟩
  ·have h1:=h.1
   have h2:=k.1
   rw [Int.natAbs_mul]
   apply Nat.eq_of_mul_eq_mul_right (two_pos ((-p).toNat+(-q).toNat))
   have hx:a*b*2 ^ (p+q).toNat*2 ^ ((-p).toNat+(-q).toNat)=(a*2 ^ p.toNat)*(b*2 ^ q.toNat)*2 ^ (-(p+q)).toNat:=by
    have:2 ^ (p+q).toNat*2 ^ ((-p).toNat+(-q).toNat)=2 ^ p.toNat*2 ^ q.toNat*2 ^ (-(p+q)).toNat:=by
     rw [← Nat.pow_add,← Nat.pow_add,← Nat.pow_add]
     congr 1
     omega
    calc _=a*b*(2 ^ (p+q).toNat*2 ^ ((-p).toNat+(-q).toNat)):=by rw [Nat.mul_assoc]
     _=a*b*(2 ^ p.toNat*2 ^ q.toNat*2 ^ (-(p+q)).toNat):=by rw [this]
     _=_:=by ac_rfl
   rw [hx,h1,h2,Nat.pow_add]
   ac_rfl
  ·have hm:m ≠ 0:=fun c=>hne (by rw [c,Int.zero_mul])
   have hn:n ≠ 0:=fun c=>hne (by rw [c,Int.mul_zero])
   rw [h.2 hm,k.2 hn]
   by_cases c1:m < 0 <;> by_cases c2:n < 0
   ·have:=Int.mul_pos_of_neg_of_neg c1 c2
    simp [c1,c2];omega
   ·have:=Int.mul_neg_of_neg_of_pos c1 (show 0 < n by omega)
    simp [c1,c2,this]
   ·have:=Int.mul_neg_of_pos_of_neg (show 0 < m by omega) c2
    simp [c1,c2,this]
   ·have:=Int.mul_pos (show 0 < m by omega) (show 0 < n by omega)
    simp [c1,c2];omega
theorem Sd.toInt {d:Datum} {n:Int} (h:Sd d n):d.toInt .zero=some n:=by
 cases d with
 | infinity s=>exact h.elim
 | nan s t=>exact h.elim
 | number s m p =>
  have hc:Toward.zero.cut s (m <<< p.toNat) (-p).toNat=n.natAbs:=by
   rw [Nat.shiftLeft_eq,h.1]
   by_cases c:n=0
   ·subst c
    rw [show (0:Int).natAbs=0 from rfl,Nat.zero_mul]
    exact cut_zero _ _ _
   ·exact cut_exact _ _ _ _ (by omega)
  show some (signed s (Toward.zero.cut s (m <<< p.toNat) (-p).toNat) 0)=some n
  rw [hc]
  unfold signed
  rw [Nat.shiftLeft_zero]
  by_cases c:n=0
  ·subst c;simp
  ·rw [h.2 c]
   by_cases cn:n < 0
   ·simp [cn];omega
   ·simp [cn];omega
def Rd (x:Nat) (n:Int):Prop:=Sd (double.read x) n
theorem Rd.add {x y:Nat} {m n:Int} (h:Rd x m) (k:Rd y n) (hb:(m+n).natAbs < 2 ^ 53):∃ r,floatBits .add .f64 x y=some r∧Rd r (m+n):=by
 obtain ⟨f,e,hf⟩:=Sd.sum h k
 refine ⟨double.write f,?_,hf.write hb⟩
 show ((double.read x).sum (double.read y)).map double.write=_
 rw [e]
 rfl
theorem Rd.sub {x y:Nat} {m n:Int} (h:Rd x m) (k:Rd y n) (hb:(m - n).natAbs < 2 ^ 53):∃ r,floatBits .sub .f64 x y=some r∧Rd r (m - n):=by
 obtain ⟨f,e,hf⟩:=Sd.sum h (Sd.opposite k)
 rw [← Int.sub_eq_add_neg] at hf
 refine ⟨double.write f,?_,hf.write hb⟩
 show ((double.read x).sum (double.read y).opposite).map double.write=_
 rw [e]
 rfl
theorem Rd.nearest (n:Int) (hb:n.natAbs < 2 ^ 53):Rd (FloatKind.f64.nearest n) n :=
 Sd.write (d:=.number (n < 0) n.natAbs 0) (n:=n) ⟨by simp,fun _=>rfl⟩ hb
theorem Rd.int {x:Nat} {n:Int} (h:Rd x n) (h1:-2 ^ 63≤n) (h2:n < 2 ^ 63):floatToIntVal .f64 x .i64=some n:=by
 unfold floatToIntVal
 show (match (double.read x).toInt .zero with|some n=>if IntKind.i64.min≤n∧n≤IntKind.i64.max then some n else none|none=>none)=_
 rw [Sd.toInt h]
 show (if IntKind.i64.min≤n∧n≤IntKind.i64.max then some n else none)=some n
 have e1:IntKind.i64.min=-2 ^ 63:=rfl
 have e2:IntKind.i64.max=2 ^ 63 - 1:=rfl
 rw [e1,e2,if_pos ⟨h1,by omega⟩]
def Cd (x:Nat × Nat) (z:Int × Int):Prop:=Rd x.1 z.1∧Rd x.2 z.2
def cadd (a b:Int × Int):Int × Int:=(a.1+b.1,a.2+b.2)
def Cb (z:Int × Int) (n:Nat):Prop:=z.1.natAbs≤n∧z.2.natAbs≤n
theorem Cd.add {a b c d:Nat} {y z:Int × Int} (h:Cd (a,b) y) (k:Cd (c,d) z) (hb:Cb (cadd y z) (2 ^ 53 - 1)) :
  ∃ re im,cSumBits .add .f64 a b c d=some (re,im)∧Cd (re,im) (cadd y z):=by
 obtain ⟨r,e1,h1⟩:=Rd.add h.1 k.1 (by have:=hb.1;simp only [cadd] at this;omega)
 obtain ⟨i,e2,h2⟩:=Rd.add h.2 k.2 (by have:=hb.2;simp only [cadd] at this;omega)
 refine ⟨r,i,?_,h1,h2⟩
 unfold cSumBits
 simp only at e1 e2
 rw [e1,e2]
 rfl
theorem natAbs_mul_le {a b:Int} {m n:Nat} (h:a.natAbs≤m) (k:b.natAbs≤n):(a*b).natAbs≤m*n:=by
 rw [Int.natAbs_mul];exact Nat.mul_le_mul h k
theorem Cb.cadd {y z:Int × Int} {m n:Nat} (hy:Cb y m) (hz:Cb z n):Cb (cadd y z) (m+n):=by
 obtain ⟨a,b⟩:=hy
 obtain ⟨c,d⟩:=hz
 exact ⟨by show (y.1+z.1).natAbs≤_;omega,by show (y.2+z.2).natAbs≤_;omega⟩
theorem Cb.le {z:Int × Int} {m n:Nat} (h:Cb z m) (k:m≤n):Cb z n:=⟨Nat.le_trans h.1 k,Nat.le_trans h.2 k⟩
end Go.Proofs.YthjmghjfklkmbaaGreat.Fx
namespace Go.Proofs.YthjmghjfklkmbaaGreat
open Go.RowKit Go.ChangeShapes Go.WideShapes Fx
set_option maxRecDepth 100000
theorem mnI (x y:Int):(if y < x then y else x)=min x y:=by split <;> omega
theorem mxI (x y:Int):(if x < y then y else x)=max x y:=by split <;> omega
def ofR (a:Int) (l:List Int):Int × Int:=l.foldl (fun r v=>(min r.1 v,max r.2 v)) (a,a)
theorem ofR_snoc (a:Int) (l:List Int) (v:Int):ofR a (l ++ [v])=(min (ofR a l).1 v,max (ofR a l).2 v):=by unfold ofR;rw [List.foldl_append];rfl
def oneR (lo hi z:Int) (gaps:Bool) (v:Int):Int × Int :=
 if gaps=true then (min (min (v*(lo - z)) (v*(hi - z))) 0,max (max (v*(lo - z)) (v*(hi - z))) 0) else (min (v*(lo - z)) (v*(hi - z)),max (v*(lo - z)) (v*(hi - z)))
def rowR (b lo hi z:Int) (gaps:Bool) (l:List Int):Int × Int:=l.foldl (fun r v=>(r.1+(oneR lo hi z gaps v).1,r.2+(oneR lo hi z gaps v).2)) (b,b)
theorem rowR_snoc (b lo hi z:Int) (gaps:Bool) (l:List Int) (v:Int):rowR b lo hi z gaps (l ++ [v])=((rowR b lo hi z gaps l).1+(oneR lo hi z gaps v).1,(rowR b lo hi z gaps l).2+(oneR lo hi z gaps v).2):=by
 unfold rowR;rw [List.foldl_append];rfl
theorem mul8_bd {v x z:Int} (hv:InK .i8 v) (hx:InK .i8 x) (hz:InK .i8 z):(v*(x - z)).natAbs≤32640:=by
 rw [inK_i8] at hv hx hz
 exact Nat.le_trans (natAbs_mul_le (m:=128) (n:=255) (by omega) (by omega)) (by decide)
theorem oneR_bd {lo hi z v:Int} (gaps:Bool) (hlo:InK .i8 lo) (hhi:InK .i8 hi) (hz:InK .i8 z) (hv:InK .i8 v) :
  (oneR lo hi z gaps v).1.natAbs≤32640∧(oneR lo hi z gaps v).2.natAbs≤32640∧(oneR lo hi z gaps v).1≤(oneR lo hi z gaps v).2:=by
 have h1:=mul8_bd hv hlo hz
 have h2:=mul8_bd hv hhi hz
 unfold oneR
 split <;> simp only <;> omega
theorem rowR_bd {b lo hi z:Int} {gaps:Bool} {l:List Int} (hlo:InK .i8 lo) (hhi:InK .i8 hi) (hz:InK .i8 z) (hl:∀ i,InK .i8 (l.getD i 0)) (hb:InK .i32 b):∀ k,k≤l.length →
  (rowR b lo hi z gaps (l.take k)).1.natAbs≤2147483648+32640*k∧(rowR b lo hi z gaps (l.take k)).2.natAbs≤2147483648+32640*k∧(rowR b lo hi z gaps (l.take k)).1≤(rowR b lo hi z gaps (l.take k)).2:=by
 intro k
 induction k with
 | zero=>intro _;rw [inK_i32] at hb;simp only [List.take_zero];show b.natAbs≤_∧b.natAbs≤_∧b≤b;omega
 | succ k ih =>
  intro h
  have hx:l[k]?=some (l.getD k 0):=by rw [List.getD_eq_getElem?_getD,List.getElem?_eq_getElem (by omega)];rfl
  rw [take_snoc l k _ hx,rowR_snoc]
  obtain ⟨a,b,c⟩:=ih (by omega)
  obtain ⟨d,e,f⟩:=oneR_bd (v:=l.getD k 0) gaps hlo hhi hz (hl k)
  simp only
  omega
theorem rowR_all {b lo hi z:Int} {gaps:Bool} {l:List Int} (hlo:InK .i8 lo) (hhi:InK .i8 hi) (hz:InK .i8 z) (hl:∀ i,InK .i8 (l.getD i 0)) (hb:InK .i32 b) :
  (rowR b lo hi z gaps l).1.natAbs≤2147483648+32640*l.length∧(rowR b lo hi z gaps l).2.natAbs≤2147483648+32640*l.length∧(rowR b lo hi z gaps l).1≤(rowR b lo hi z gaps l).2:=by
 have h:=rowR_bd (gaps:=gaps) hlo hhi hz hl hb l.length (Nat.le_refl _)
 rwa [List.take_length] at h
def rowL (w:List Int) (each o:Nat):List Int:=(w.drop (o*each)).take each
def allR (w bias:List Int) (lo hi z:Int) (gaps:Bool):List (Int × Int) :=
 if bias.length=0 ∨ ¬ w.length % bias.length=0 then [] else (List.range bias.length).map fun o=>rowR (bias.getD o 0) lo hi z gaps (rowL w (w.length / bias.length) o)
def holdsR (l:List (Int × Int)):Bool:=l.all fun r=>decide (-2147483648≤r.1) && decide (r.2≤2147483647)
def bothF (l:List (Int × Int)) (a:Int × Int):Int × Int:=l.foldl (fun o r=>(min o.1 r.1,max o.2 r.2)) a
def bothR (l:List (Int × Int)):Int × Int:=bothF l (l.getD 0 (0,0))
theorem bothF_snoc (l:List (Int × Int)) (a r:Int × Int):bothF (l ++ [r]) a=(min (bothF l a).1 r.1,max (bothF l a).2 r.2):=by unfold bothF;rw [List.foldl_append];rfl
theorem holdsR_snoc (l:List (Int × Int)) (r:Int × Int):holdsR (l ++ [r])=(holdsR l && (decide (-2147483648≤r.1) && decide (r.2≤2147483647))):=by unfold holdsR;simp
theorem holdsF_iff:∀ (l:List (Int × Int)) (a:Int × Int),(-2147483648≤(bothF l a).1∧(bothF l a).2≤2147483647) ↔ holdsR l=true∧-2147483648≤a.1∧a.2≤2147483647
 | [],a=>by show (-2147483648≤a.1∧a.2≤2147483647) ↔ true=true∧_;simp
 | r :: l,a=>by
  show (-2147483648≤(bothF l (min a.1 r.1,max a.2 r.2)).1∧(bothF l (min a.1 r.1,max a.2 r.2)).2≤2147483647) ↔ _
  rw [holdsF_iff l]
  unfold holdsR
  simp only [List.all_cons,Bool.and_eq_true,decide_eq_true_eq]
  constructor
  ·rintro ⟨h1,h2,h3⟩;exact ⟨⟨⟨by omega,by omega⟩,h1⟩,by omega,by omega⟩
  ·rintro ⟨⟨⟨h1,h2⟩,h3⟩,h4,h5⟩;exact ⟨h3,by omega,by omega⟩
theorem holdsR_both (l:List (Int × Int)):holdsR l=(decide (-2147483648≤(bothR l).1) && decide ((bothR l).2≤2147483647)):=by
 rw [Bool.eq_iff_iff,Bool.and_eq_true,decide_eq_true_eq,decide_eq_true_eq]
 unfold bothR
 rw [holdsF_iff]
 constructor
 ·intro h
  refine ⟨h,?_⟩
  cases l with
  | nil=>exact ⟨by decide,by decide⟩
  | cons r l =>
   unfold holdsR at h
   simp only [List.all_cons,Bool.and_eq_true,decide_eq_true_eq] at h
   exact h.1
 ·exact fun h=>h.1
theorem rowL_len {w:List Int} {nb o:Nat} (h:w.length % nb=0) (ho:o < nb):(rowL w (w.length / nb) o).length=w.length / nb∧o*(w.length / nb)+w.length / nb≤w.length:=by
 have e:nb*(w.length / nb)=w.length:=Nat.mul_div_cancel' (Nat.dvd_of_mod_eq_zero h)
 have h1:(o+1)*(w.length / nb)≤nb*(w.length / nb):=Nat.mul_le_mul_right _ ho
 rw [Nat.succ_mul] at h1
 refine ⟨?_,by omega⟩
 unfold rowL
 rw [List.length_take,List.length_drop]
 omega
end Go.Proofs.YthjmghjfklkmbaaGreat
namespace Go.Proofs.YthjmghjfklkmbaaGreat
open Go.RowKit
theorem grT {w w1 w2:World} {r:Option Nat} (h:w.grownBy w1 r) (h':w1.grownBy w2 r):w.grownBy w2 r :=
 ⟨h'.os.trans h.os,h'.tape.trans h.tape,h'.output.trans h.output,Nat.le_trans h.size h'.size,fun k hk hne=>(h'.block k (Nat.lt_of_lt_of_le hk h.size) hne).trans (h.block k hk hne)⟩
theorem grS (w:World) (r:Option Nat):w.grownBy w r:=⟨rfl,rfl,rfl,Nat.le_refl _,fun _ _ _=>rfl⟩
theorem grO {w w':World} {r:Option Nat} (h:Below w.heap.size w w'):w.grownBy w' r:=⟨h.os,h.tape,h.output,h.size,fun k hk _=>h.block k hk⟩
end Go.Proofs.YthjmghjfklkmbaaGreat
namespace Go.Proofs.YthjmghjfklkmbaaGreat
open Go.RowKit Go.ChangeShapes Go.WideShapes
set_option maxRecDepth 100000
set_option maxHeartbeats 2000000
def heldV (v lo hi:Int):Int:=if v < lo then lo else if v > hi then hi else v
theorem held_any (v lo hi:Int) (w:World):Calls Tryz.prog 125 (sN v lo hi) w fun e w'=>e=.returned (.int .i64 (heldV v lo hi))∧w=w':=by
 unfold heldV
 by_cases a1:v < lo
 ·rw [if_pos a1]
  go_enter Tryz.func125,Tryz.ntmps125
  go_wp2_with fail
  go_ret
  exact ⟨rfl,rfl⟩
 ·rw [if_neg a1]
  by_cases a2:v > hi
  ·rw [if_pos a2]
   go_enter Tryz.func125,Tryz.ntmps125
   go_wp2_with fail
   go_ret
   exact ⟨rfl,rfl⟩
  ·rw [if_neg a2]
   go_enter Tryz.func125,Tryz.ntmps125
   go_wp2_with fail
   go_ret
   exact ⟨rfl,rfl⟩
theorem rheld_any (v lo hi:Int) (w:World):Calls Tryz.prog 98 (sN v lo hi) w fun e w'=>e=.returned (.int .i64 (heldV v lo hi))∧w=w':=by
 unfold heldV
 by_cases a1:v < lo
 ·rw [if_pos a1]
  go_enter Tryz.func98,Tryz.ntmps98
  go_wp2_with fail
  go_ret
  exact ⟨rfl,rfl⟩
 ·rw [if_neg a1]
  by_cases a2:v > hi
  ·rw [if_pos a2]
   go_enter Tryz.func98,Tryz.ntmps98
   go_wp2_with fail
   go_ret
   exact ⟨rfl,rfl⟩
  ·rw [if_neg a2]
   go_enter Tryz.func98,Tryz.ntmps98
   go_wp2_with fail
   go_ret
   exact ⟨rfl,rfl⟩
def w8 (v:Int):Int:=IntKind.i8.wrap v
theorem w8_eq (n:Int):w8 n=(n+128) % 256 - 128:=by
 unfold w8 IntKind.wrap
 simp [IntKind.bits,IntKind.signed]
 split <;> omega
theorem w8_in (n:Int):InK .i8 (w8 n):=by rw [inK_i8,w8_eq];omega
theorem clamp_any (v lo hi:Int) (w:World) (h0:InK .i8 lo) (h1:InK .i8 hi):Calls Tryz.prog 120 #[.int .i64 v,.int .i8 lo,.int .i8 hi] w fun e w'=>e=.returned (.int .i8 (w8 (heldV v lo hi)))∧w=w':=by
 rw [inK_i8] at h0 h1
 obtain ⟨a1,a2⟩:=h0
 obtain ⟨a3,a4⟩:=h1
 go_enter Tryz.func120,Tryz.ntmps120
 go_wp2_with (go_at_call 125;refine (held_any _ _ _ _).mono ?_;rintro e w2 ⟨rfl,rfl⟩)
 go_ret
 exact ⟨rfl,rfl⟩
end Go.Proofs.YthjmghjfklkmbaaGreat
namespace Go.Proofs.YthjmghjfklkmbaaGreat
open Go Go.RowKit
theorem wpList_load_midw {P:Program} {ops:Array Oper} {rest:List Oper} {o:Oper} {a:Act} {w:World} {Q:Exit → Act → World → Prop} (hw:Region.wanted o (yielded ops a.tmps)=true) (ty:TypeId) (x:Operand) (ho:o.op=.load ty x)
  (b off:Nat) (hx:a.eval x=.pointer (some ⟨b,off,none⟩)) (cs:List Value) (d:TypeDesc) (hC:w.rangeAt b off cs)
  (hu:P.underlying ty=some d) (hd:d.isRow=true) (hi:(P.info? ty).map (·.size)=some cs.length) (h:wpList P ops Q rest (a.put o.dst (.agg cs.toArray)) w):wpList P ops Q (o :: rest) a w:=by
 refine BigFrame.wpList_want hw fun K hK=>?_
 unfold Oper.wp execOp
 simp only [ho,hx,Instr.loadAt,Instr.sureAddr,Sem.run_bind,Sem.run_pure,Result.andThen_ok,run_loadVar_mid w b off ty cs d hC hu hd hi]
 exact hK _ _ h
section
variable {P:Program} {ops:Array Oper} {rest:List Oper} {o:Oper} {a:Act} {w:World} {Q:Exit → Act → World → Prop} {T E:TypeId} {z:Value} {size bytes:Nat}
theorem rangeAt_later {w w':World} {b off:Nat} {cs:List Value} (h:w.rangeAt b off cs) (hb:Below w.heap.size w w'):w'.rangeAt b off cs:=fun j v hv=>(hb.cell (World.block_lt_of_cell? w _ (h j v hv))).trans (h j v hv)
end
end Go.Proofs.YthjmghjfklkmbaaGreat
namespace Go.Proofs.YthjmghjfklkmbaaGreat
open Go.RowKit Go.ChangeShapes Go.WideShapes
set_option maxRecDepth 100000
theorem tensorRight_any (h v c:Int) (A:Option Addr) (n cap:Nat) (w:World) (h0:InK .i64 h) (h1:InK .i64 v) (h2:InK .i64 c) (hn:n≤maxLen) :
  Calls Tryz.prog 43 #[.agg (tN h v c A n cap)] w fun e w'=>e=.returned (.bool (decide (0 < elems h v c∧elems h v c=n)))∧Below w.heap.size w w':=by
 have H0:=zH h0
 have H1:=zH h1
 have H2:=zH h2
 unfold maxLen at hn
 clear h0 h1 h2
 go_enter Tryz.func43,Tryz.ntmps43
 go_wp2_with fail
 refine (elems_any h c v _ H0.out H1.out H2.out).mono ?_
 rintro e w' ⟨rfl,hb⟩
 have hc:=cell_below hb (p:=⟨w.heap.size,3,none⟩) (v:=.slice A n cap) (by simp [go_sem]) (by simp)
 generalize he:elems h v c=m at *
 have HE:=zH he
 clear he
 by_cases hm:0 < m
 ·go_wp2_with fail
  go_ret
  exact ⟨ret_bool (by rw [HE.out,Bool.eq_iff_iff];simp [hm]),((Below.refl _ _).alloc (Nat.le_refl _) _).trans (hb.mono (by simp))⟩
 ·go_wp2_with fail
  go_ret
  exact ⟨ret_bool (by rw [HE.out,Bool.eq_iff_iff];simp;omega),((Below.refl _ _).alloc (Nat.le_refl _) _).trans (hb.mono (by simp))⟩
theorem rtensorRight_any (h v c:Int) (A:Option Addr) (n cap:Nat) (w:World) (h0:InK .i64 h) (h1:InK .i64 v) (h2:InK .i64 c) (hn:n≤maxLen) :
  Calls Tryz.prog 14 #[.agg (tN h v c A n cap)] w fun e w'=>e=.returned (.bool (decide (0 < elems h v c∧elems h v c=n)))∧Below w.heap.size w w':=by
 have H0:=zH h0
 have H1:=zH h1
 have H2:=zH h2
 unfold maxLen at hn
 clear h0 h1 h2
 go_enter Tryz.func14,Tryz.ntmps14
 go_wp2_with fail
 have g1:Below w.heap.size w (w.alloc (.cells (tN h v c A n cap) 29)):=by go_grown
 have bA:=Blk.now w w.heap.size 29 (tN h v c A n cap) rfl
 generalize w.alloc (.cells (tN h v c A n cap) 29)=w0 at *
 have BA:=zH bA
 have cA:∀ (x:Ext w0) (i:Nat),x.1.cell? ⟨w.heap.size,i,none⟩=((tN h v c A n cap):Array Value)[i]?:=fun x i=>(BA.out.ext x).cell i
 clear bA
 have e1:∀ x:Ext w0,Calls Tryz.prog 22 #[.agg (sN h v c)] x.1 fun e w''=>e=.returned (.int .i64 (elems h v c))∧∃ y:Ext w0,w''=y.1 :=
  fun x=>calls_ext x (relems_any h c v _ H0.out H1.out H2.out)
 generalize hm:elems h v c=m at *
 have E1:=zH e1
 have HM:=zH hm
 clear hm e1
 by_cases hm:0 < m
 ·refine wp_region_ext w0 (by kernel_rfl) (by kernel_rfl) (Below.refl _ _) ?_
  repeat (go_big_quiet_step ((exact E1.out _)))
  refine wpQuiet_nil ?_
  rintro _ ⟨⟨w3,hb⟩,rfl⟩
  go_wp2_with fail
  go_ret
  exact ⟨ret_bool (by rw [HM.out,Bool.eq_iff_iff];simp [hm]),below_call g1 hb g1.size⟩
 ·have hd:decide (0 < m)=false:=by simp;omega
  refine wp_region_ext w0 (by kernel_rfl) (by kernel_rfl) (Below.refl _ _) ?_
  repeat (go_big_quiet_step ((exact E1.out _)))
  refine wpQuiet_nil ?_
  rintro _ ⟨⟨w3,hb⟩,rfl⟩
  go_wp2_with fail
  go_ret
  exact ⟨ret_bool (by rw [HM.out,Bool.eq_iff_iff];simp;omega),below_call g1 hb g1.size⟩
def Tensor.ok (t:Tensor):Bool:=decide (0 < elems t.h t.v t.c∧elems t.h t.v t.c=t.data.length)
theorem Sl.far {α:Type} {t:Ty α} {w:World} {S:Nat → Prop} {A:Option Addr} {n cap:Nat} {l:List α} (h:Sl t w S A n cap l) (p:Addr) (u:Value) (hp:∀ b,S b → b ≠ p.block):Sl t (w.setCell p u) S A n cap l :=
 h.keep fun b hb=>Below.heap_setCell w p u b (hp b hb)
theorem samei_eq (A A':Option Addr) (n cap n' cap':Nat) (l:List Int) (w:World) (h:Sl (tInt .i64) w (blo w.heap.size) A n cap l) (h':Sl (tInt .i64) w (blo w.heap.size) A' n' cap' l) :
  Calls Tryz.prog 13 #[.slice A n cap,.slice A' n' cap'] w fun e w'=>e=.returned (.bool true)∧Below w.heap.size w w':=by
 have hm:n≤9223372036854775807:=Nat.le_trans h.cap_le h.max_le
 obtain rfl:n=n':=h.n_eq.symm.trans h'.n_eq
 have H:=zH h
 have H':=zH h'
 clear h h'
 have d1:((n:Int) != (n:Int))=false:=by simp
 go_enter Tryz.func13,Tryz.ntmps13
 go_wp2_with fail
 go_loopw [5] (fun i wr=>∃ k:Nat,k≤n∧i=.int .i64 k∧wr.heap=w.heap∧Below w.heap.size w wr) (fun i _=>n - (intOf i).toNat)
 case atStart=>exact ⟨0,Nat.zero_le _,rfl,rfl,Below.refl _ _⟩
 case round =>
  obtain ⟨k,hk,rfl,hh,hb⟩:=hrel
  by_cases hlt:k < n
  ·obtain ⟨b,off,rfl,_,_,c0,i0⟩:=(H.out.below hb (fun _ h=>h)).int_at k hlt
   obtain ⟨b',off',rfl,_,_,c1,i1⟩:=(H'.out.below hb (fun _ h=>h)).int_at k hlt
   have HH:=zH hh
   clear hh i0 i1
   generalize hx:l.getD k 0=x at *
   have d3:(x != x)=false:=by simp
   clear hx
   go_wp2_with fail
   go_quiet (fail)
   go_wp2_with fail
   exact ⟨⟨k+1,by omega,by go_num,HH.out,below_drewN hb _⟩,by simp [intOf];omega⟩
  ·obtain rfl:k=n:=by omega
   go_wp2_with fail
   go_ret
   exact ⟨rfl,hb⟩
end Go.Proofs.YthjmghjfklkmbaaGreat
