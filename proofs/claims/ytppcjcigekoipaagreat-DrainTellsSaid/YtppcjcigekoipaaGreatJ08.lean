/-
  One cell of a known block is stored, the world behind it opaque; facts taken over a store into another block.
  Facts that go over to later worlds, all at once.
  slices.Clone of []int8.
  slices.Equal of []int8.
  slices.Equal of []int32.
  '==' of arrays of numbers, of 8 and of 4.
  The shape that a node makes (layers 10, 17): conv.Shape, depth.Shape, the document's.
  The shape that a node makes (layers 18, 25): what they are, in numbers.
  Between which numbers sums lie (layer 24), as plain lists.
  A block that has grown, and grown again.
  A scope in which the run may jump ahead to one label, once.
  'T{x}' of one struct: a block of its cells (a law for the operation, so that the walk need not run it).
  '!=' of two structs in a region that only reads; a literal slice of several structs (laws for the operations).
  Exits (layer 30): Check, the program's and the document's; a head opened.
  A new ring (layer 41).
-/
import Derived.Test.YtppcjcigekoipaaGreatJ06
set_option linter.unusedVariables false
set_option linter.unusedSimpArgs false
namespace Go.Proofs.YtppcjcigekoipaaGreat
open Go Go.RowKit
theorem Blk.away {w w':World} {g m:Nat} {e:TypeId} {cs:Array Value} (h:Blk w g e cs) (hg:w.grownBy w' (some m)) (hne:g < m ∨ m < g):Blk w' g e cs :=
 ⟨(hg.block g h.lt (fun e=>by have:=Option.some.inj e;omega)).trans h.heap⟩
theorem Far.away {w0 w w':World} {m:Nat} (h:Far w0 w) (hg:w.grownBy w' (some m)) (hm:w0.heap.size≤m):Far w0 w' :=
 ⟨h.out.grown hg h.out.size (fun k hk=>by have:=Option.some.inj hk;omega)⟩
theorem New.away {w0:World} {α:Type} {t:Ty α} {w w':World} {A:Option Addr} {n cap m:Nat} {l:List α} (h:New w0 t w A n cap l) (hg:w.grownBy w' (some m)) (hm:m < w0.heap.size):New w0 t w' A n cap l :=
 ⟨(h.out.keep fun b hb=>hg.block b hb.2 (fun e=>by have:=Option.some.inj e;have:=hb.1;omega)).more fun b hb=>⟨hb.1,Nat.lt_of_lt_of_le hb.2 hg.size⟩⟩
theorem Sl.away {α:Type} {t:Ty α} {w w':World} {n0 m:Nat} {A:Option Addr} {n cap:Nat} {l:List α} (h:Sl t w (blo n0) A n cap l) (hg:w.grownBy w' (some m)) (hm:n0≤m) (hn:n0≤w.heap.size):Sl t w' (blo n0) A n cap l :=
 h.keep fun b hb=>hg.block b (Nat.lt_of_lt_of_le hb hn) (fun e=>by have:=Option.some.inj e;have:b < n0:=hb;omega)
structure Old (w0:World) {α:Type} (t:Ty α) (w:World) (A:Option Addr) (n cap:Nat) (l:List α):Prop where
 out:Sl t w (blo w0.heap.size) A n cap l
 le:w0.heap.size≤w.heap.size
section
variable {w0 w w':World} {α:Type} {t:Ty α} {A:Option Addr} {n cap m:Nat} {l:List α}
theorem Old.now (h:Sl t w (blo w.heap.size) A n cap l):Old w t w A n cap l:=⟨h,Nat.le_refl _⟩
theorem Old.fut (h:Old w0 t w A n cap l) (hb:Below w.heap.size w w'):Old w0 t w' A n cap l:=⟨h.out.below hb (fun b hb=>Nat.lt_of_lt_of_le hb h.le),Nat.le_trans h.le hb.size⟩
theorem Old.away (h:Old w0 t w A n cap l) (hg:w.grownBy w' (some m)) (hm:w0.heap.size≤m):Old w0 t w' A n cap l :=
 ⟨h.out.keep fun b hb=>hg.block b (Nat.lt_of_lt_of_le hb h.le) (fun e=>by have:=Option.some.inj e;have:b < w0.heap.size:=hb;omega),Nat.le_trans h.le hg.size⟩
theorem Old.all (h:Old w0 t w A n cap l):Sl t w (blo w.heap.size) A n cap l:=h.out.more (blo_more h.le)
theorem Old.draw (h:Old w0 t w A n cap l):Old w0 t w.drew A n cap l:=⟨h.out.keep fun b hb=>rfl,h.le⟩
end
theorem Blk.draw {w:World} {g:Nat} {e:TypeId} {cs:Array Value} (h:Blk w g e cs):Blk w.drew g e cs:=h.drew
theorem Far.draw {w0 w:World} (h:Far w0 w):Far w0 w.drew:=⟨h.out.drew⟩
theorem New.draw {w0:World} {α:Type} {t:Ty α} {w:World} {A:Option Addr} {n cap:Nat} {l:List α} (h:New w0 t w A n cap l):New w0 t w.drew A n cap l:=⟨h.out.keep fun b hb=>rfl⟩
section
variable {P:Program} {ops:Array Oper} {rest:List Oper} {op:Oper} {a:Act} {w:World} {Q:Exit → Act → World → Prop}
theorem wpList_store_one (hgd:op.guard=none) (ty:TypeId) (x y:Operand) (ho:op.op=.store ty x y) (g off:Nat) (v:Value) (hx:a.eval x=.pointer (some ⟨g,off,none⟩)) (hy:a.eval y=v) (hv:v.cells=#[v]) (h1:v.oneCell'=true)
  (e:TypeId) (cs cs':Array Value) (hb:Blk w g e cs) (hfit:off < cs.size) (hi:(P.info? ty).map (·.size)=some 1) (hcs:cs'.toList=cs.toList.take off ++ [v] ++ cs.toList.drop (off+1))
  (h:∀ w',Blk w' g e cs' → w.grownBy w' (some g) → wpList P ops Q rest (a.put op.dst undef) w'):wpList P ops Q (op :: rest) a w:=by
 have hcs:=putAt_list (vs:=[v]) (o:=off) (cs:=cs) (cs':=cs') (by simp;omega) (by simpa using hcs)
 subst hcs
 have hrun:(storeVar ty ⟨g,off,none⟩ v).run P w=.ok () (w.setCells g off [v]):=by
  have:=run_storeCells_cells (P:=P) g off [v] 0 w (fun j hj=>by simp at hj;subst hj;rw [hb.cell];simp;omega) (fun j hj=>hb.frozen _) (fun u hu=>by simp at hu;subst hu;exact h1)
  cases hq:P.info? ty with
  | none=>simp [hq] at hi
  | some i =>
   have hs:i.size=1:=by simpa [hq] using hi
   simp only [Nat.add_zero] at this
   simp [storeVar,sizeOf,typeInfo,hq,hv,hs,this]
 refine wpList_plain hgd fun K hK=>?_
 unfold Oper.wp execOp
 simp only [ho,hx,hy,Instr.storeAt,Instr.sureAddr,Sem.run_bind,Sem.run_pure,Result.andThen_ok,hrun]
 exact hK _ _ (h _ (Blk.setCells _ _ _ _ hb) (grown_setCells _ _ _))
theorem oper_store_one {K:Act → World → Prop} (ty:TypeId) (x y:Operand) (ho:op.op=.store ty x y) (g off:Nat) (v:Value) (hx:a.eval x=.pointer (some ⟨g,off,none⟩)) (hy:a.eval y=v) (hv:v.cells=#[v]) (h1:v.oneCell'=true)
  (e:TypeId) (cs cs':Array Value) (hb:Blk w g e cs) (hfit:off < cs.size) (hi:(P.info? ty).map (·.size)=some 1) (hcs:cs'.toList=cs.toList.take off ++ [v] ++ cs.toList.drop (off+1))
  (h:∀ w',Blk w' g e cs' → w.grownBy w' (some g) → K (a.put op.dst undef) w'):op.wp P a w K Q:=by
 have hcs:=putAt_list (vs:=[v]) (o:=off) (cs:=cs) (cs':=cs') (by simp;omega) (by simpa using hcs)
 subst hcs
 have hrun:(storeVar ty ⟨g,off,none⟩ v).run P w=.ok () (w.setCells g off [v]):=by
  have:=run_storeCells_cells (P:=P) g off [v] 0 w (fun j hj=>by simp at hj;subst hj;rw [hb.cell];simp;omega) (fun j hj=>hb.frozen _) (fun u hu=>by simp at hu;subst hu;exact h1)
  cases hq:P.info? ty with
  | none=>simp [hq] at hi
  | some i =>
   have hs:i.size=1:=by simpa [hq] using hi
   simp only [Nat.add_zero] at this
   simp [storeVar,sizeOf,typeInfo,hq,hv,hs,this]
 unfold Oper.wp execOp
 simp only [ho,hx,hy,Instr.storeAt,Instr.sureAddr,Sem.run_bind,Sem.run_pure,Result.andThen_ok,hrun]
 exact h _ (Blk.setCells _ _ _ _ hb) (grown_setCells _ _ _)
end
end Go.Proofs.YtppcjcigekoipaaGreat
namespace Go.Proofs.YtppcjcigekoipaaGreat
open Go Go.RowKit
theorem rangeF {w w':World} {g o:Nat} {vs:List Value} (h:w.rangeAt g o vs) (hb:Below w.heap.size w w'):w'.rangeAt g o vs:=fun j v hv=>cell_later hb (h j v hv)
class Kp (w w':World) (A:Prop) (B:outParam Prop):Prop where
 fut:A → Below w.heap.size w w' → B
class St (w w':World) (m:Nat) (A:Prop) (B C:outParam Prop):Prop where
 away:A → w.grownBy w' (some m) → C → B
section
variable {w w':World} {A B X Y:Prop} {m:Nat} {C D:Prop} {w0:World} {α:Type} {t:Ty α} {p:Option Addr} {n cap:Nat} {l:List α} {g o:Nat} {e:TypeId} {cs:Array Value} {vs:List Value}
instance kpAnd [Kp w w' A B] [Kp w w' X Y]:Kp w w' (A∧X) (B∧Y):=⟨fun h hb=>⟨Kp.fut h.1 hb,Kp.fut h.2 hb⟩⟩
instance kpFar:Kp w w' (Far w0 w) (Far w0 w'):=⟨fun h hb=>h.fut hb⟩
instance kpOld:Kp w w' (Old w0 t w p n cap l) (Old w0 t w' p n cap l):=⟨fun h hb=>h.fut hb⟩
instance kpNew:Kp w w' (New w0 t w p n cap l) (New w0 t w' p n cap l):=⟨fun h hb=>h.fut hb⟩
instance kpBlk:Kp w w' (Blk w g e cs) (Blk w' g e cs):=⟨fun h hb=>h.fut hb⟩
instance kpRange:Kp w w' (w.rangeAt g o vs) (w'.rangeAt g o vs):=⟨rangeF⟩
instance stAnd [St w w' m A B C] [St w w' m X Y D]:St w w' m (A∧X) (B∧Y) (C∧D):=⟨fun h g c=>⟨St.away h.1 g c.1,St.away h.2 g c.2⟩⟩
instance stFar:St w w' m (Far w0 w) (Far w0 w') (w0.heap.size≤m):=⟨fun h g c=>h.away g c⟩
instance stOld:St w w' m (Old w0 t w p n cap l) (Old w0 t w' p n cap l) (w0.heap.size≤m):=⟨fun h g c=>h.away g c⟩
instance stNew:St w w' m (New w0 t w p n cap l) (New w0 t w' p n cap l) (m < w0.heap.size):=⟨fun h g c=>h.away g c⟩
instance stBlk:St w w' m (Blk w g e cs) (Blk w' g e cs) (g < m ∨ m < g):=⟨fun h k c=>h.away k c⟩
instance stRange:St w w' m (w.rangeAt g o vs) (w'.rangeAt g o vs) (g < m ∨ m < g):=⟨fun h k c j v hv=>by
 have h1:=h j v hv
 have hlt:=World.block_lt_of_cell? _ _ h1
 rw [World.cell?_of_block (k.block g hlt (fun e=>by have:=Option.some.inj e;omega))]
 exact h1⟩
theorem belowS {w w':World} {cs:Array Value} {e:TypeId} (k:(w.alloc (.cells cs e)).grownBy w' (some w.heap.size)):Below w.heap.size w w':=((Below.refl _ _).alloc (Nat.le_refl _) _).grown k (by simp) (fun j h=>by have:=Option.some.inj h;omega)
theorem sF {P:Program} {ops:Array Oper} {rest:List Oper} {op:Oper} {a:Act} {Q:Exit → Act → World → Prop} {cs0:Array Value} (ty:TypeId) (x y:Operand) (v:Array Value) (h:∀ w',Hid (Blk w' w.heap.size e v) → Below w.heap.size w w' → wpList P ops Q rest (a.put op.dst undef) w')
  (hgd:op.guard=none:=by rfl) (ho:op.op=.store ty x y:=by rfl) (hx:a.eval x=.pointer (some ⟨w.heap.size,0,none⟩):=by rfl) (hy:a.eval y=.agg v:=by rfl) (hn:cs0.size=v.size:=by rfl) (hi:(P.info? ty).map (·.size)=some v.size:=by kernel_rfl) (h1:v.all (·.oneCell')=true:=by rw [← Array.all_toList];rfl):wpList P ops Q (op :: rest) a (w.alloc (.cells cs0 e)) :=
 wpList_store_all hgd ty x y ho w.heap.size v hx hy e cs0 (Blk.now _ _ _ _ rfl) hn hi h1 fun w' b k=>h w' (zH b) (belowS k)
theorem rTCT {P:Program} {fn:Func} {R:Ending → World → Prop} {a:Act} {u p q:Tmp} {ty:TypeId} {fs:Array Field} (hb:Blk w g e cs) (hu:P.underlying ty=some (.struct fs)) (hR:R (.returned (.tuple #[a.tmps.getD u undef,.agg cs,a.tmps.getD q undef])) w)
  (h:fn.results=#[.tmp u,.cell p ty,.tmp q]:=by rfl) (hp:a.tmps.getD p undef=.pointer (some ⟨g,0,none⟩):=by rfl) (hi:(P.info? ty).map (·.size)=some cs.size:=by kernel_rfl) (hd:a.defers=[]:=by rfl):bodyPost P fn R .ret a w:=by
 refine bodyPost_ret (v:=.tuple #[a.tmps.getD u undef,.agg cs,a.tmps.getD q undef]) ?_ hd hR
 have hp':a.tmps[p]?.getD undef=.pointer (some ⟨g,0,none⟩):=by simpa using hp
 simp [results,h,Sem.run_bind,hp',run_asAddr_ptr,run_loadVar_row w g e ty cs (0,0) (.struct fs) hb.heap hu rfl hi,Result.andThen]
theorem lM {P:Program} {ops:Array Oper} {rest:List Oper} {op:Oper} {a:Act} {Q:Exit → Act → World → Prop} {d:TypeDesc} (ty:TypeId) (x:Operand) (r:w.rangeAt g o vs) (hu:P.underlying ty=some d) (h:wpList P ops Q rest (a.put op.dst (.agg vs.toArray)) w)
  (hgd:op.guard=none:=by rfl) (ho:op.op=.load ty x:=by rfl) (hx:a.eval x=.pointer (some ⟨g,o,none⟩):=by rfl) (hd:d.isRow=true:=by rfl) (hi:(P.info? ty).map (·.size)=some vs.length:=by kernel_rfl):wpList P ops Q (op :: rest) a w :=
 wpList_load_mid hgd ty x ho g o hx vs d r hu hd hi h
theorem zF (hb:Below w.heap.size w w') (h:Hid A) [Kp w w' A B]:Hid B:=zH (Kp.fut h.out hb)
theorem zD (w:World) (h:Hid A) [Kp w w.drew A B]:Hid B:=zF (Below.refl w.heap.size w).drew h
theorem zJ (h:Hid A) (r:X):Hid (A∧X):=zH ⟨h.out,r⟩
theorem zN (hb:Below w.heap.size w w') (h:Hid A) (r:Hid X) [Kp w w' A B]:Hid (B∧X):=zH ⟨Kp.fut h.out hb,r.out⟩
theorem zA (k:w.grownBy w' (some m)) (h:Hid A) [St w w' m A B C] (c:C:=by omega):Hid B:=zH (St.away h.out k c)
theorem zS {e':TypeId} {cs':Array Value} (k:w.grownBy w' (some m)) (b:Blk w' m e' cs') (h:Hid (A∧Blk w m e cs)) [St w w' m A B C] (c:C:=by omega):Hid (B∧Blk w' m e' cs'):=zH ⟨St.away h.out.1 k c,b⟩
end
end Go.Proofs.YtppcjcigekoipaaGreat
namespace Go.Proofs.YtppcjcigekoipaaGreat
open Go.RowKit Go.ChangeShapes Go.WideShapes
set_option maxRecDepth 100000
theorem ei_i8':EI Tryz.prog 44 83 (.int .i8 0) 1 1:=⟨Tryz.underlying44,by kernel_rfl,rfl,by decide⟩
theorem clone8_any (A:Option Addr) (n c:Nat) (l:List Int) (w:World) (h:Sl (tInt .i8) w (blo w.heap.size) A n c l) (hn:n≤140737488351232) :
  Calls Tryz.prog 66 #[.slice A n c] w (RetSl (tInt .i8) w l):=by
 cases A with
 | none =>
  have hc:=h.nil_ rfl
  have hm:=h.cap_le
  obtain rfl:c=0:=hc
  obtain rfl:n=0:=by omega
  obtain rfl:l=[]:=List.length_eq_zero_iff.1 h.n_eq
  clear h
  have q0:=fun w=>Lib.run_eql_slice_nil (P:=Tryz.prog) w 44 83 none 0 0 0 0 Tryz.underlying44
  simp only [Option.isNone_none] at q0
  go_enter Tryz.func66,Tryz.ntmps66
  go_wp2_with fail
  go_ret
  exact ⟨none,0,0,rfl,Sl.nil _ _ _,Below.refl _ _⟩
 | some ad =>
  have H:=zH h
  clear h
  have q0:=fun w=>Lib.run_eql_slice_nil (P:=Tryz.prog) w 44 83 (some ad) n c 0 0 Tryz.underlying44
  simp only [Option.isNone_some] at q0
  go_enter Tryz.func66,Tryz.ntmps66
  have o0:=Own.lit0 (W:=w) (k:=.i8) (E:=83) (base:=w.heap.size) (Nat.le_refl _)
  have k0:Below w.heap.size w (w.alloc (.cells #[] 83)):=(Below.refl _ _).alloc (Nat.le_refl _) _
  have s0:=H.out.later k0 (Nat.le_refl _)
  go_wp2_with (at_builtin;refine wpList_extend rfl _ _ rfl ei_i8' rfl o0 rfl s0 (by unfold maxLen;omega) (by omega) k0.size ?_;intro v' w' o' g' a')
  go_ret
  refine o'.ret (by decide) (k0.grown g' k0.size (fun k h=>(o0.lt k h).1)) (fun b h=>h.elim)
theorem equal8_any (A A':Option Addr) (n cap n' cap':Nat) (l l':List Int) (w:World) (h:Sl (tInt .i8) w (blo w.heap.size) A n cap l) (h':Sl (tInt .i8) w (blo w.heap.size) A' n' cap' l') :
  Calls Tryz.prog 162 #[.slice A n cap,.slice A' n' cap'] w fun e w'=>e=.returned (.bool (decide (l=l')))∧Below w.heap.size w w':=by
 have hm:n≤9223372036854775807:=Nat.le_trans h.cap_le h.max_le
 have hm':n'≤9223372036854775807:=Nat.le_trans h'.cap_le h'.max_le
 have H:=zH h
 have H':=zH h'
 clear h h'
 by_cases hn:n=n'
 rotate_left
 ·have d1:((n:Int) != (n':Int))=true:=by rw [bne_iff_ne];omega
  have d2:decide (l=l')=false:=by rw [decide_eq_false_iff_not];rintro rfl;exact hn (H.out.n_eq.symm.trans H'.out.n_eq)
  rw [d2]
  clear hn
  go_enter Tryz.func162,Tryz.ntmps162
  go_wp2_with fail
  go_ret
  exact ⟨rfl,Below.refl _ _⟩
 subst hn
 have d1:((n:Int) != (n:Int))=false:=by simp
 go_enter Tryz.func162,Tryz.ntmps162
 go_wp2_with fail
 go_loopw [13] (fun i wr=>∃ k:Nat,k≤n∧i=.int .i64 k∧wr.heap=w.heap∧Below w.heap.size w wr∧∀ j,j < k → l.getD j 0=l'.getD j 0) (fun i _=>n - (intOf i).toNat)
 case atStart=>exact ⟨0,Nat.zero_le _,rfl,rfl,Below.refl _ _,fun j hj=>absurd hj (Nat.not_lt_zero _)⟩
 case round =>
  obtain ⟨k,hk,rfl,hh,hb,hq⟩:=hrel
  have HQ:=zH hq
  clear hq
  by_cases hlt:k < n
  ·obtain ⟨b,off,rfl,_,_,c0,i0⟩:=(H.out.below hb (fun _ h=>h)).int_at k hlt
   obtain ⟨b',off',rfl,_,_,c1,i1⟩:=(H'.out.below hb (fun _ h=>h)).int_at k hlt
   have HH:=zH hh
   clear hh i0 i1
   by_cases he:l.getD k 0=l'.getD k 0
   ·rw [← he] at c1
    generalize hx:l.getD k 0=x at *
    have d3:(x != x)=false:=by simp
    have HX:=zH hx
    have HE:=zH he
    clear hx he
    go_wp2_with fail
    go_quiet (fail)
    go_wp2_with fail
    refine ⟨⟨k+1,by omega,by go_num,HH.out,below_drewN hb _,fun j hj=>?_⟩,by simp [intOf];omega⟩
    by_cases hjk:j < k
    ·exact HQ.out j hjk
    ·obtain rfl:j=k:=by omega
     rw [HX.out,HE.out]
   ·have d2:decide (l=l')=false:=by rw [decide_eq_false_iff_not];rintro rfl;exact he rfl
    have d3:(l.getD k 0 != l'.getD k 0)=true:=by rw [bne_iff_ne];exact he
    generalize l.getD k 0=x at *
    generalize l'.getD k 0=y at *
    have D2:=zH d2
    clear d2 he
    go_wp2_with fail
    go_quiet (fail)
    go_wp2_with fail
    go_ret
    exact ⟨by rw [D2.out];rfl,below_drewN hb _⟩
  ·obtain rfl:k=n:=by omega
   go_wp2_with fail
   go_ret
   exact ⟨by rw [decide_eq_true (list_eq_getD H.out.n_eq H'.out.n_eq HQ.out)];rfl,hb⟩
theorem equal32_any (A A':Option Addr) (n cap n' cap':Nat) (l l':List Int) (w:World) (h:Sl (tInt .i32) w (blo w.heap.size) A n cap l) (h':Sl (tInt .i32) w (blo w.heap.size) A' n' cap' l') :
  Calls Tryz.prog 168 #[.slice A n cap,.slice A' n' cap'] w fun e w'=>e=.returned (.bool (decide (l=l')))∧Below w.heap.size w w':=by
 have hm:n≤9223372036854775807:=Nat.le_trans h.cap_le h.max_le
 have hm':n'≤9223372036854775807:=Nat.le_trans h'.cap_le h'.max_le
 have H:=zH h
 have H':=zH h'
 clear h h'
 by_cases hn:n=n'
 rotate_left
 ·have d1:((n:Int) != (n':Int))=true:=by rw [bne_iff_ne];omega
  have d2:decide (l=l')=false:=by rw [decide_eq_false_iff_not];rintro rfl;exact hn (H.out.n_eq.symm.trans H'.out.n_eq)
  rw [d2]
  clear hn
  go_enter Tryz.func168,Tryz.ntmps168
  go_wp2_with fail
  go_ret
  exact ⟨rfl,Below.refl _ _⟩
 subst hn
 have d1:((n:Int) != (n:Int))=false:=by simp
 go_enter Tryz.func168,Tryz.ntmps168
 go_wp2_with fail
 go_loopw [13] (fun i wr=>∃ k:Nat,k≤n∧i=.int .i64 k∧wr.heap=w.heap∧Below w.heap.size w wr∧∀ j,j < k → l.getD j 0=l'.getD j 0) (fun i _=>n - (intOf i).toNat)
 case atStart=>exact ⟨0,Nat.zero_le _,rfl,rfl,Below.refl _ _,fun j hj=>absurd hj (Nat.not_lt_zero _)⟩
 case round =>
  obtain ⟨k,hk,rfl,hh,hb,hq⟩:=hrel
  have HQ:=zH hq
  clear hq
  by_cases hlt:k < n
  ·obtain ⟨b,off,rfl,_,_,c0,i0⟩:=(H.out.below hb (fun _ h=>h)).int_at k hlt
   obtain ⟨b',off',rfl,_,_,c1,i1⟩:=(H'.out.below hb (fun _ h=>h)).int_at k hlt
   have HH:=zH hh
   clear hh i0 i1
   by_cases he:l.getD k 0=l'.getD k 0
   ·rw [← he] at c1
    generalize hx:l.getD k 0=x at *
    have d3:(x != x)=false:=by simp
    have HX:=zH hx
    have HE:=zH he
    clear hx he
    go_wp2_with fail
    go_quiet (fail)
    go_wp2_with fail
    refine ⟨⟨k+1,by omega,by go_num,HH.out,below_drewN hb _,fun j hj=>?_⟩,by simp [intOf];omega⟩
    by_cases hjk:j < k
    ·exact HQ.out j hjk
    ·obtain rfl:j=k:=by omega
     rw [HX.out,HE.out]
   ·have d2:decide (l=l')=false:=by rw [decide_eq_false_iff_not];rintro rfl;exact he rfl
    have d3:(l.getD k 0 != l'.getD k 0)=true:=by rw [bne_iff_ne];exact he
    generalize l.getD k 0=x at *
    generalize l'.getD k 0=y at *
    have D2:=zH d2
    clear d2 he
    go_wp2_with fail
    go_quiet (fail)
    go_wp2_with fail
    go_ret
    exact ⟨by rw [D2.out];rfl,below_drewN hb _⟩
  ·obtain rfl:k=n:=by omega
   go_wp2_with fail
   go_ret
   exact ⟨by rw [decide_eq_true (list_eq_getD H.out.n_eq H'.out.n_eq HQ.out)];rfl,hb⟩
end Go.Proofs.YtppcjcigekoipaaGreat
namespace Go.Proofs.YtppcjcigekoipaaGreat
open Go
theorem run_eql_arr4 {P:Program} {t e:TypeId} {k:IntKind} (w:World) (hT:P.underlying t=some (.array 4 e)) (hE:P.underlying e=some (.int k)) (hs:(P.info? e).map (·.size)=some 1) (hp:P.plainKey e=true) (a0 a1 a2 a3 b0 b1 b2 b3:Int) :
  (Op.equalIn 10000 t (.agg #[.int k a0,.int k a1,.int k a2,.int k a3]) (.agg #[.int k b0,.int k b1,.int k b2,.int k b3])).run P w=.ok ([a0,a1,a2,a3] == [b0,b1,b2,b3]) w:=by
 have hsz:(Go.sizeOf e).run P w=.ok 1 w:=by
  cases hq:P.info? e with
  | none=>simp [hq] at hs
  | some i =>
   have:i.size=1:=by simpa [hq] using hs
   simp [Go.sizeOf,typeInfo,hq,this]
 have hpart:∀ (xs:Array Value) (off:Nat),off < xs.size → (part e xs off).run P w=.ok xs[off]! w:=fun xs off h=>run_part_plain (w:=w) hp (by simp [h])
 have hq:∀ x y:Int,(Op.equalIn 9999 e (.int k x) (.int k y)).run P w=.ok (x == y) w:=fun x y=>by
  show (Op.equalIn (9998+1) e _ _).run P w=_
  exact run_equalIn_int w 9998 e k k x y hE
 show (Op.equalIn (9999+1) t _ _).run P w=_
 unfold Op.equalIn
 simp only [Sem.run_bind,run_underlying hT w,Result.andThen_ok]
 simp [Std.Legacy.Range.forIn_eq_forIn_range',Std.Legacy.Range.size,List.range',Sem.run_bind,hpart,hq,hsz]
 by_cases h0:a0=b0
 rotate_left
 ·simp [h0]
 subst h0
 try simp
 by_cases h1:a1=b1
 rotate_left
 ·simp [h1]
 subst h1
 try simp
 by_cases h2:a2=b2
 rotate_left
 ·simp [h2]
 subst h2
 try simp
 by_cases h3:a3=b3
 rotate_left
 ·simp [h3]
 subst h3
 try simp
theorem run_eql_arr8 {P:Program} {t e:TypeId} {k:IntKind} (w:World) (hT:P.underlying t=some (.array 8 e)) (hE:P.underlying e=some (.int k)) (hs:(P.info? e).map (·.size)=some 1) (hp:P.plainKey e=true) (a0 a1 a2 a3 a4 a5 a6 a7 b0 b1 b2 b3 b4 b5 b6 b7:Int) :
  (Op.equalIn 10000 t (.agg #[.int k a0,.int k a1,.int k a2,.int k a3,.int k a4,.int k a5,.int k a6,.int k a7]) (.agg #[.int k b0,.int k b1,.int k b2,.int k b3,.int k b4,.int k b5,.int k b6,.int k b7])).run P w=.ok ([a0,a1,a2,a3,a4,a5,a6,a7] == [b0,b1,b2,b3,b4,b5,b6,b7]) w:=by
 have hsz:(Go.sizeOf e).run P w=.ok 1 w:=by
  cases hq:P.info? e with
  | none=>simp [hq] at hs
  | some i =>
   have:i.size=1:=by simpa [hq] using hs
   simp [Go.sizeOf,typeInfo,hq,this]
 have hpart:∀ (xs:Array Value) (off:Nat),off < xs.size → (part e xs off).run P w=.ok xs[off]! w:=fun xs off h=>run_part_plain (w:=w) hp (by simp [h])
 have hq:∀ x y:Int,(Op.equalIn 9999 e (.int k x) (.int k y)).run P w=.ok (x == y) w:=fun x y=>by
  show (Op.equalIn (9998+1) e _ _).run P w=_
  exact run_equalIn_int w 9998 e k k x y hE
 show (Op.equalIn (9999+1) t _ _).run P w=_
 unfold Op.equalIn
 simp only [Sem.run_bind,run_underlying hT w,Result.andThen_ok]
 simp [Std.Legacy.Range.forIn_eq_forIn_range',Std.Legacy.Range.size,List.range',Sem.run_bind,hpart,hq,hsz]
 by_cases h0:a0=b0
 rotate_left
 ·simp [h0]
 subst h0
 try simp
 by_cases h1:a1=b1
 rotate_left
 ·simp [h1]
 subst h1
 try simp
 by_cases h2:a2=b2
 rotate_left
 ·simp [h2]
 subst h2
 try simp
 by_cases h3:a3=b3
 rotate_left
 ·simp [h3]
 subst h3
 try simp
 by_cases h4:a4=b4
 rotate_left
 ·simp [h4]
 subst h4
 try simp
 by_cases h5:a5=b5
 rotate_left
 ·simp [h5]
 subst h5
 try simp
 by_cases h6:a6=b6
 rotate_left
 ·simp [h6]
 subst h6
 try simp
 by_cases h7:a7=b7
 rotate_left
 ·simp [h7]
 subst h7
 try simp
theorem run_eql_st3 {P : Program} {t : TypeId} {f0 f1 f2 : Field} {k0 k1 k2 : IntKind} (w : World) (hT : P.underlying t = some (.struct #[f0, f1, f2])) (hst : P.stoodInHeld t = false) (hn : f0.name ≠ "_" ∧ f1.name ≠ "_" ∧ f2.name ≠ "_") (ho : f0.offset = 0 ∧ f1.offset = 1 ∧ f2.offset = 2)
  (h0:P.underlying f0.type=some (.int k0)) (h1:P.underlying f1.type=some (.int k1)) (h2:P.underlying f2.type=some (.int k2)) (p0:P.plainKey f0.type=true) (p1:P.plainKey f1.type=true) (p2:P.plainKey f2.type=true) (a0 a1 a2 b0 b1 b2:Int) :
  (Op.equalIn 10000 t (.agg #[.int k0 a0,.int k1 a1,.int k2 a2]) (.agg #[.int k0 b0,.int k1 b1,.int k2 b2])).run P w=.ok ([a0,a1,a2] == [b0,b1,b2]) w:=by
 have q0:∀ (xs:Array Value) (off:Nat),off < xs.size → (part f0.type xs off).run P w=.ok xs[off]! w:=fun xs off h=>run_part_plain (w:=w) p0 (by simp [h])
 have q1:∀ (xs:Array Value) (off:Nat),off < xs.size → (part f1.type xs off).run P w=.ok xs[off]! w:=fun xs off h=>run_part_plain (w:=w) p1 (by simp [h])
 have q2:∀ (xs:Array Value) (off:Nat),off < xs.size → (part f2.type xs off).run P w=.ok xs[off]! w:=fun xs off h=>run_part_plain (w:=w) p2 (by simp [h])
 have e0:∀ x y:Int,(Op.equalIn 9999 f0.type (.int k0 x) (.int k0 y)).run P w=.ok (x == y) w:=fun x y=>by
  show (Op.equalIn (9998+1) _ _ _).run P w=_
  exact run_equalIn_int w 9998 f0.type k0 k0 x y h0
 have e1:∀ x y:Int,(Op.equalIn 9999 f1.type (.int k1 x) (.int k1 y)).run P w=.ok (x == y) w:=fun x y=>by
  show (Op.equalIn (9998+1) _ _ _).run P w=_
  exact run_equalIn_int w 9998 f1.type k1 k1 x y h1
 have e2:∀ x y:Int,(Op.equalIn 9999 f2.type (.int k2 x) (.int k2 y)).run P w=.ok (x == y) w:=fun x y=>by
  show (Op.equalIn (9998+1) _ _ _).run P w=_
  exact run_equalIn_int w 9998 f2.type k2 k2 x y h2
 show (Op.equalIn (9999+1) t _ _).run P w=_
 unfold Op.equalIn
 simp only [Sem.run_bind,run_underlying hT w,Result.andThen_ok]
 simp [Sem.run_bind,q0,q1,q2,e0,e1,e2,hst,hn.1,hn.2.1,hn.2.2,ho.1,ho.2.1,ho.2.2,run_program]
 by_cases h0:a0=b0
 rotate_left
 ·simp [h0]
 subst h0
 try simp
 by_cases h1:a1=b1
 rotate_left
 ·simp [h1]
 subst h1
 try simp
 by_cases h2:a2=b2
 rotate_left
 ·simp [h2]
 subst h2
 try simp
theorem wpList_eql_agg {P:Program} {ops:Array Oper} {rest:List Oper} {o:Oper} {a:Act} {w:World} {Q:Exit → Act → World → Prop} (t u:TypeId) (x y:Operand) (ho:o.op=.binOp .eql t x y u) (xs ys:Array Value) (hx:a.eval x=.agg xs) (hy:a.eval y=.agg ys)
  (hw:Region.wanted o (yielded ops a.tmps)=true) (hm:P.eqGuardType P.depth t=false) (b:Bool) (hrun:(Op.equalIn 10000 t (.agg xs) (.agg ys)).run P w=.ok b w) (h:wpList P ops Q rest (a.put o.dst (.bool b)) w):wpList P ops Q (o :: rest) a w:=by
 refine BigFrame.wpList_want hw fun K hK=>?_
 unfold Oper.wp execOp
 simp only [ho,hx,hy,Sem.run_bind,fun w=>run_eqGuard_agg (P:=P) w .eql t x y xs ys hm,run_eql_struct,hrun,Result.andThen_ok,Sem.run_pure]
 exact hK _ _ (by simpa using h)
end Go.Proofs.YtppcjcigekoipaaGreat
namespace Go.Proofs.YtppcjcigekoipaaGreat
open Go.RowKit Go.ChangeShapes Go.WideShapes
set_option maxRecDepth 100000
theorem slideV_ok {h v c k s p o:Int} (e:(slideV h v c k s p o).2=0):1≤k∧k≤5∧1≤o∧o≤1024∧1≤c∧c≤1024:=by
 unfold slideV at e
 by_cases c1:elems h v c=0
 ·rw [if_pos c1] at e;cases e
 rw [if_neg c1] at e
 by_cases c2:(stepsV h k s p).2 ≠ 0
 ·rw [if_pos c2] at e;exact absurd e c2
 rw [if_neg c2] at e
 by_cases c3:(stepsV v k s p).2 ≠ 0
 ·rw [if_pos c3] at e;exact absurd e c3
 rw [if_neg c3] at e
 by_cases c4:elems (stepsV h k s p).1 (stepsV v k s p).1 o=0
 ·rw [if_pos c4] at e;cases e
 rw [elems_iff] at c1 c4
 have g1:1≤c∧c≤1024:=by
  split at c1
  ·omega
  ·exact absurd rfl c1
 have g2:1≤o∧o≤1024:=by
  split at c4
  ·omega
  ·exact absurd rfl c4
 have g3:1≤k∧k≤5:=by
  unfold stepsV at c2
  split at c2
  ·rename_i q;unfold stepOk at q;omega
  ·exact absurd (by decide) c2
 omega
def fitV (x:ShE) (want out:Int) (d:Node):ShE:=if x.2 ≠ 0 then noS x.2 else if ¬ (d.w.length:Int)=want ∨ 16384 < d.w.length ∨ ¬ (d.bias.length:Int)=out then noS 9 else x
def convV (h v c:Int) (d:Node):ShE:=fitV (slideV h v c d.k d.s d.p d.out) (d.out*d.k*d.k*c) d.out d
def depthV (h v c:Int) (d:Node):ShE:=fitV (slideV h v c d.k d.s d.p c) (c*d.k*d.k) c d
theorem prod_bd {a b:Int} {m n:Int} (h1:0≤a) (h2:a≤m) (h3:0≤b) (h4:b≤n) (hm:0≤m):0≤a*b∧a*b≤m*n :=
 ⟨Int.mul_nonneg h1 h3,Int.mul_le_mul h2 h4 h3 hm⟩
def denseV (h v c:Int) (d:Node):ShE:=if elems h v c=0 ∨ elems 1 1 d.out=0 then noS 5
 else if ¬ (d.w.length:Int)=d.out*elems h v c ∨ 16384 < d.w.length ∨ ¬ (d.bias.length:Int)=d.out then noS 9 else ((1,1,d.out),0)
def aroundV (h v c p:Int):ShE:=if p < 0 ∨ 4 < p then noS 2 else if elems (h+2*p) (v+2*p) c=0 then noS 5 else ((h+2*p,v+2*p,c),0)
def plainV (k h v c h2 v2 c2 p:Int):ShE:=if elems h v c=0 then noS 5 else if k=6∧([h,v,c] == [h2,v2,c2])=false then noS 5
 else if k=8 then aroundV h v c p else if k=9 then ((1,1,elems h v c),0) else ((h,v,c),0)
def shapeV (h v c h2 v2 c2:Int) (d:Node):ShE:=if d.kind=1 then convV h v c d else if d.kind=2 then depthV h v c d else if d.kind=3 then denseV h v c d
 else if d.kind=4 ∨ d.kind=5 then slideV h v c d.k d.s d.p c else plainV d.kind h v c h2 v2 c2 d.p
theorem elems_bd {h v c:Int} (e:¬ elems h v c=0):1≤h∧h≤16∧1≤v∧v≤16∧1≤c∧c≤1024:=by
 rw [elems_iff] at e
 split at e
 ·omega
 ·exact absurd rfl e
theorem wpList_neq_agg {P:Program} {ops:Array Oper} {rest:List Oper} {o:Oper} {a:Act} {w:World} {Q:Exit → Act → World → Prop} (t u:TypeId) (x y:Operand) (ho:o.op=.binOp .neq t x y u) (xs ys:Array Value) (hx:a.eval x=.agg xs) (hy:a.eval y=.agg ys)
  (hw:Region.wanted o (yielded ops a.tmps)=true) (hm:P.eqGuardType P.depth t=false) (b:Bool) (hrun:(Op.equalIn 10000 t (.agg xs) (.agg ys)).run P w=.ok b w) (h:wpList P ops Q rest (a.put o.dst (.bool (!b))) w):wpList P ops Q (o :: rest) a w:=by
 refine BigFrame.wpList_want hw fun K hK=>?_
 unfold Oper.wp execOp
 simp only [ho,hx,hy,Sem.run_bind,fun w=>run_eqGuard_agg (P:=P) w .neq t x y xs ys hm,run_neq_struct,hrun,Result.andThen_ok,Sem.run_pure]
 exact hK _ _ (by simpa using h)
theorem eq_shape (w:World) (h v c h2 v2 c2:Int):(Op.equalIn 10000 23 (.agg (sN h v c)) (.agg (sN h2 v2 c2))).run Tryz.prog w=.ok ([h,v,c] == [h2,v2,c2]) w :=
 run_eql_st3 (P:=Tryz.prog) (t:=23) (k0:=.i64) (k1:=.i64) (k2:=.i64) w Tryz.underlying23 (by kernel_rfl) (by decide) ⟨rfl,rfl,rfl⟩ Tryz.underlying3 Tryz.underlying3 Tryz.underlying3 (by kernel_rfl) (by kernel_rfl) (by kernel_rfl) h v c h2 v2 c2
end Go.Proofs.YtppcjcigekoipaaGreat
namespace Go.Proofs.YtppcjcigekoipaaGreat
open Go.RowKit Go.ChangeShapes Go.WideShapes Fx
set_option maxRecDepth 100000
theorem mnI (x y:Int):(if y < x then y else x)=min x y:=by split <;> omega
theorem mxI (x y:Int):(if x < y then y else x)=max x y:=by split <;> omega
def ofR (a:Int) (l:List Int):Int × Int:=l.foldl (fun r v=>(min r.1 v,max r.2 v)) (a,a)
theorem ofR_snoc (a:Int) (l:List Int) (v:Int):ofR a (l ++ [v])=(min (ofR a l).1 v,max (ofR a l).2 v):=by unfold ofR;rw [List.foldl_append];rfl
def oneR (lo hi z:Int) (gaps:Bool) (v:Int):Int × Int :=
 if gaps=true then (min (min (v*(lo - z)) (v*(hi - z))) 0,max (max (v*(lo - z)) (v*(hi - z))) 0) else (min (v*(lo - z)) (v*(hi - z)),max (v*(lo - z)) (v*(hi - z)))
def rowR (b lo hi z:Int) (gaps:Bool) (l:List Int):Int × Int:=l.foldl (fun r v=>(r.1+(oneR lo hi z gaps v).1,r.2+(oneR lo hi z gaps v).2)) (b,b)
theorem rowR_snoc (b lo hi z:Int) (gaps:Bool) (l:List Int) (v:Int):rowR b lo hi z gaps (l ++ [v])=((rowR b lo hi z gaps l).1+(oneR lo hi z gaps v).1,(rowR b lo hi z gaps l).2+(oneR lo hi z gaps v).2):=by
 unfold rowR;rw [List.foldl_append];rfl
theorem mul8_bd {v x z:Int} (hv:InK .i8 v) (hx:InK .i8 x) (hz:InK .i8 z):(v*(x - z)).natAbs≤32640:=by
 rw [inK_i8] at hv hx hz
 exact Nat.le_trans (natAbs_mul_le (m:=128) (n:=255) (by omega) (by omega)) (by decide)
theorem oneR_bd {lo hi z v:Int} (gaps:Bool) (hlo:InK .i8 lo) (hhi:InK .i8 hi) (hz:InK .i8 z) (hv:InK .i8 v) :
  (oneR lo hi z gaps v).1.natAbs≤32640∧(oneR lo hi z gaps v).2.natAbs≤32640∧(oneR lo hi z gaps v).1≤(oneR lo hi z gaps v).2:=by
 have h1:=mul8_bd hv hlo hz
 have h2:=mul8_bd hv hhi hz
 unfold oneR
 split <;> simp only <;> omega
theorem rowR_bd {b lo hi z:Int} {gaps:Bool} {l:List Int} (hlo:InK .i8 lo) (hhi:InK .i8 hi) (hz:InK .i8 z) (hl:∀ i,InK .i8 (l.getD i 0)) (hb:InK .i32 b):∀ k,k≤l.length →
  (rowR b lo hi z gaps (l.take k)).1.natAbs≤2147483648+32640*k∧(rowR b lo hi z gaps (l.take k)).2.natAbs≤2147483648+32640*k∧(rowR b lo hi z gaps (l.take k)).1≤(rowR b lo hi z gaps (l.take k)).2:=by
 intro k
 induction k with
 | zero=>intro _;rw [inK_i32] at hb;simp only [List.take_zero];show b.natAbs≤_∧b.natAbs≤_∧b≤b;omega
 | succ k ih =>
  intro h
  have hx:l[k]?=some (l.getD k 0):=by rw [List.getD_eq_getElem?_getD,List.getElem?_eq_getElem (by omega)];rfl
  rw [take_snoc l k _ hx,rowR_snoc]
  obtain ⟨a,b,c⟩:=ih (by omega)
  obtain ⟨d,e,f⟩:=oneR_bd (v:=l.getD k 0) gaps hlo hhi hz (hl k)
  simp only
  omega
theorem rowR_all {b lo hi z:Int} {gaps:Bool} {l:List Int} (hlo:InK .i8 lo) (hhi:InK .i8 hi) (hz:InK .i8 z) (hl:∀ i,InK .i8 (l.getD i 0)) (hb:InK .i32 b) :
  (rowR b lo hi z gaps l).1.natAbs≤2147483648+32640*l.length∧(rowR b lo hi z gaps l).2.natAbs≤2147483648+32640*l.length∧(rowR b lo hi z gaps l).1≤(rowR b lo hi z gaps l).2:=by
 have h:=rowR_bd (gaps:=gaps) hlo hhi hz hl hb l.length (Nat.le_refl _)
 rwa [List.take_length] at h
def rowL (w:List Int) (each o:Nat):List Int:=(w.drop (o*each)).take each
def allR (w bias:List Int) (lo hi z:Int) (gaps:Bool):List (Int × Int) :=
 if bias.length=0 ∨ ¬ w.length % bias.length=0 then [] else (List.range bias.length).map fun o=>rowR (bias.getD o 0) lo hi z gaps (rowL w (w.length / bias.length) o)
def holdsR (l:List (Int × Int)):Bool:=l.all fun r=>decide (-2147483648≤r.1) && decide (r.2≤2147483647)
def bothF (l:List (Int × Int)) (a:Int × Int):Int × Int:=l.foldl (fun o r=>(min o.1 r.1,max o.2 r.2)) a
def bothR (l:List (Int × Int)):Int × Int:=bothF l (l.getD 0 (0,0))
theorem bothF_snoc (l:List (Int × Int)) (a r:Int × Int):bothF (l ++ [r]) a=(min (bothF l a).1 r.1,max (bothF l a).2 r.2):=by unfold bothF;rw [List.foldl_append];rfl
theorem holdsR_snoc (l:List (Int × Int)) (r:Int × Int):holdsR (l ++ [r])=(holdsR l && (decide (-2147483648≤r.1) && decide (r.2≤2147483647))):=by unfold holdsR;simp
theorem holdsF_iff:∀ (l:List (Int × Int)) (a:Int × Int),(-2147483648≤(bothF l a).1∧(bothF l a).2≤2147483647) ↔ holdsR l=true∧-2147483648≤a.1∧a.2≤2147483647
 | [],a=>by show (-2147483648≤a.1∧a.2≤2147483647) ↔ true=true∧_;simp
 | r :: l,a=>by
  show (-2147483648≤(bothF l (min a.1 r.1,max a.2 r.2)).1∧(bothF l (min a.1 r.1,max a.2 r.2)).2≤2147483647) ↔ _
  rw [holdsF_iff l]
  unfold holdsR
  simp only [List.all_cons,Bool.and_eq_true,decide_eq_true_eq]
  constructor
  ·rintro ⟨h1,h2,h3⟩;exact ⟨⟨⟨by omega,by omega⟩,h1⟩,by omega,by omega⟩
  ·rintro ⟨⟨⟨h1,h2⟩,h3⟩,h4,h5⟩;exact ⟨h3,by omega,by omega⟩
theorem holdsR_both (l:List (Int × Int)):holdsR l=(decide (-2147483648≤(bothR l).1) && decide ((bothR l).2≤2147483647)):=by
 rw [Bool.eq_iff_iff,Bool.and_eq_true,decide_eq_true_eq,decide_eq_true_eq]
 unfold bothR
 rw [holdsF_iff]
 constructor
 ·intro h
  refine ⟨h,?_⟩
  cases l with
  | nil=>exact ⟨by decide,by decide⟩
  | cons r l =>
   unfold holdsR at h
   simp only [List.all_cons,Bool.and_eq_true,decide_eq_true_eq] at h
   exact h.1
 ·exact fun h=>h.1
theorem rowL_len {w:List Int} {nb o:Nat} (h:w.length % nb=0) (ho:o < nb):(rowL w (w.length / nb) o).length=w.length / nb∧o*(w.length / nb)+w.length / nb≤w.length:=by
 have e:nb*(w.length / nb)=w.length:=Nat.mul_div_cancel' (Nat.dvd_of_mod_eq_zero h)
 have h1:(o+1)*(w.length / nb)≤nb*(w.length / nb):=Nat.mul_le_mul_right _ ho
 rw [Nat.succ_mul] at h1
 refine ⟨?_,by omega⟩
 unfold rowL
 rw [List.length_take,List.length_drop]
 omega
end Go.Proofs.YtppcjcigekoipaaGreat
namespace Go.Proofs.YtppcjcigekoipaaGreat
open Go.RowKit
theorem grT {w w1 w2:World} {r:Option Nat} (h:w.grownBy w1 r) (h':w1.grownBy w2 r):w.grownBy w2 r :=
 ⟨h'.os.trans h.os,h'.tape.trans h.tape,h'.output.trans h.output,Nat.le_trans h.size h'.size,fun k hk hne=>(h'.block k (Nat.lt_of_lt_of_le hk h.size) hne).trans (h.block k hk hne)⟩
theorem grS (w:World) (r:Option Nat):w.grownBy w r:=⟨rfl,rfl,rfl,Nat.le_refl _,fun _ _ _=>rfl⟩
theorem grO {w w':World} {r:Option Nat} (h:Below w.heap.size w w'):w.grownBy w' r:=⟨h.os,h.tape,h.output,h.size,fun k hk _=>h.block k hk⟩
end Go.Proofs.YtppcjcigekoipaaGreat
namespace Go.Proofs.YtppcjcigekoipaaGreat
open Go
theorem wp_scope_fore {P:Program} {a:Act} {w:World} {Q:Exit → Act → World → Prop} {c rest:Code} (l:Nat) (hf:findLabel c l=some rest)
  (first:c.wp P (Exit.jump l (fun a' w'=>rest.wp P (Exit.noGoto Q) a' w') Q) a w):(Code.scope c).wp P Q a w:=by
 refine wp_scope_jumps l _ (fun _ _=>0) hf first fun a' w' h=>?_
 intro b k cs
 obtain ⟨e,a₁,w₁,hq,harr⟩:=h b k cs
 refine ⟨e,a₁,w₁,?_,harr⟩
 cases e with
 | goto l'=>exact hq.elim
 | normal=>exact hq
 | exit id=>exact hq
 | ret=>exact hq
 | panic ch=>exact hq
 | outgrown=>exact hq
end Go.Proofs.YtppcjcigekoipaaGreat
namespace Go.Proofs.YtppcjcigekoipaaGreat
open Go Go.RowKit
theorem fold_putAt (off:Nat):∀ (l:List Value) (k:Nat) (cs:Array Value),(l.zipIdx k).foldl (fun cs (x:Value × Nat)=>cs.setIfInBounds (off+x.2) x.1) cs=putAt cs (off+k) l
 | [],_,_=>rfl
 | v :: r,k,cs=>by
  rw [List.zipIdx_cons,List.foldl_cons,fold_putAt off r (k+1)]
  rfl
theorem fill_one (cells vs:Array Value) (size:Nat) (h1:vs.size=size) (h2:cells.size=size):Instr.fill (fun i=>some (i*size,size)) cells [(0,.agg vs)]=some vs:=by
 have hv:(Value.agg vs).cells=vs:=rfl
 unfold Instr.fill
 simp only [hv,Nat.zero_mul,Nat.zero_add]
 rw [if_neg (by simp;omega)]
 unfold Instr.fill
 have:=fold_putAt 0 vs.toList 0 cells
 simp only [Nat.zero_add] at this
 rw [← Array.foldl_toList,Array.toList_zipIdx,this]
 congr 1
 exact putAt_full (by omega)
theorem run_lit1 {P:Program} {T E:TypeId} {z:Value} {size bytes:Nat} (w:World) (ei:EI P T E z size bytes) (vs:Array Value) (hvs:vs.size=size) (hsm:size≤16777216) :
  (Instr.buildSlice T 1 #[(0,.agg vs)]).run P w=.ok (.slice (some ⟨w.heap.size,0,none⟩) 1 1) (w.alloc (.cells vs E)):=by
 obtain ⟨i,hi,hz0,hz1,hz2⟩:=info_parts ei.hi
 have hp:=ei.hp
 have hsz:(sizeOf E).run P w=.ok size w:=by simp [sizeOf,typeInfo,hi,hz1]
 have hzv:(zeroValue E).run P w=.ok z w:=by simp [zeroValue,typeInfo,hi,hz0]
 have hf:=fill_one ((Array.range (1*size)).map (z.cells[· % z.cells.size]!)) vs size hvs (by simp)
 have hnot:¬ (1*size > 2 ^ 24):=by omega
 have hnz:¬ (1*size=0):=by omega
 unfold Instr.buildSlice
 simp only [Sem.run_bind,run_underlying ei.ht w,Result.andThen_ok,hsz,if_neg hnot,if_neg hnz,hzv,Sem.run_pure,hf,newRow,newObj]
 rfl
section
variable {P:Program} {ops:Array Oper} {rest:List Oper} {o:Oper} {a:Act} {w:World} {Q:Exit → Act → World → Prop} {T E:TypeId} {z:Value} {size bytes:Nat}
theorem wpList_lit1 (hgd:o.guard=none) (x:Operand) (ho:o.op=.buildSlice T 1 #[(0,x)]) (ei:EI P T E z size bytes) (vs:Array Value) (hx:a.eval x=.agg vs) (hvs:vs.size=size) (hsm:size≤16777216)
  (h:wpList P ops Q rest (a.put o.dst (.slice (some ⟨w.heap.size,0,none⟩) 1 1)) (w.alloc (.cells vs E))):wpList P ops Q (o :: rest) a w:=by
 refine wpList_plain hgd fun K hK=>?_
 unfold Oper.wp execOp
 simp only [ho,List.map_toArray,List.map_cons,List.map_nil,hx,Sem.run_bind,run_lit1 w ei vs hvs hsm,Sem.run_pure,Result.andThen_ok]
 exact hK _ _ h
end
end Go.Proofs.YtppcjcigekoipaaGreat
namespace Go.Proofs.YtppcjcigekoipaaGreat
open Go Go.RowKit
theorem wpList_load_midw {P:Program} {ops:Array Oper} {rest:List Oper} {o:Oper} {a:Act} {w:World} {Q:Exit → Act → World → Prop} (hw:Region.wanted o (yielded ops a.tmps)=true) (ty:TypeId) (x:Operand) (ho:o.op=.load ty x)
  (b off:Nat) (hx:a.eval x=.pointer (some ⟨b,off,none⟩)) (cs:List Value) (d:TypeDesc) (hC:w.rangeAt b off cs)
  (hu:P.underlying ty=some d) (hd:d.isRow=true) (hi:(P.info? ty).map (·.size)=some cs.length) (h:wpList P ops Q rest (a.put o.dst (.agg cs.toArray)) w):wpList P ops Q (o :: rest) a w:=by
 refine BigFrame.wpList_want hw fun K hK=>?_
 unfold Oper.wp execOp
 simp only [ho,hx,Instr.loadAt,Instr.sureAddr,Sem.run_bind,Sem.run_pure,Result.andThen_ok,run_loadVar_mid w b off ty cs d hC hu hd hi]
 exact hK _ _ h
section
variable {P:Program} {ops:Array Oper} {rest:List Oper} {o:Oper} {a:Act} {w:World} {Q:Exit → Act → World → Prop} {T E:TypeId} {z:Value} {size bytes:Nat}
theorem rangeAt_later {w w':World} {b off:Nat} {cs:List Value} (h:w.rangeAt b off cs) (hb:Below w.heap.size w w'):w'.rangeAt b off cs:=fun j v hv=>(hb.cell (World.block_lt_of_cell? w _ (h j v hv))).trans (h j v hv)
end
end Go.Proofs.YtppcjcigekoipaaGreat
namespace Go.Proofs.YtppcjcigekoipaaGreat
open Go.RowKit Go.ChangeShapes Go.WideShapes
set_option maxRecDepth 100000
structure Hd where
 w:List Int
 bias:List Int
 need:Int
def tHd:Ty Hd:=tMap (fun (x:List Int × List Int × Int)=>⟨x.1,x.2.1,x.2.2⟩) (tPair (tSlice (tInt .i8)) (tPair (tSlice (tInt .i32)) (tInt .i32)))
theorem hd_open {w:World} {S:Nat → Prop} {cs:List Value} {d:Hd} (h:tHd.rep w S cs d) :
  ∃ W nw cw B nb cb,cs=[.slice W nw cw,.slice B nb cb,.int .i32 d.need]∧InK .i32 d.need∧Sl (tInt .i8) w S W nw cw d.w∧Sl (tInt .i32) w S B nb cb d.bias:=by
 obtain ⟨⟨a,b,c⟩,rfl,_,_,rfl,hw,_,_,rfl,hb,rfl,hc⟩:=h
 obtain ⟨W,cw,rfl,hw'⟩:=tSlice_iff.1 hw
 obtain ⟨B,cb,rfl,hb'⟩:=tSlice_iff.1 hb
 exact ⟨W,_,cw,B,_,cb,rfl,hc,hw',hb'⟩
theorem opens_hd:Opens Tryz.prog 47 tHd:=opens_map _ (opens_struct Tryz.underlying47 (by kernel_rfl) (opensFrom_cons rfl opens_i8s (opensFrom_cons rfl opens_i32s (opensFrom_last rfl opens_i32))))
def checkI (m:Int) (nw nb:Nat) (need cl:Int):Int :=
 if m=0 then 5 else if cl < 2 ∨ 16 < cl then 2 else if (nw:Int) ≠ cl*m ∨ 16384 < nw ∨ (nb:Int) ≠ cl then 9 else if need < 0 then 11 else 0
theorem elems_bdv (h v c:Int):0≤elems h v c∧elems h v c≤1024:=by
 rw [elems_iff]
 split
 ·rename_i hh
  refine ⟨?_,hh.2.2.2.2.2.2⟩
  exact Int.mul_nonneg (Int.mul_nonneg (by omega) (by omega)) (by omega)
 ·omega
theorem verdCheck_any (h v c:Int) (W:Option Addr) (nw cw:Nat) (B:Option Addr) (nb cb:Nat) (need cl:Int) (w:World) (h0:InK .i64 h) (h1:InK .i64 v) (h2:InK .i64 c) (hnw:nw≤maxLen) (hnb:nb≤maxLen) (hcl:InK .i64 cl) :
  Calls Tryz.prog 135 #[.agg (sN h v c),.agg #[.slice W nw cw,.slice B nb cb,.int .i32 need],.int .i64 cl] w fun e w' =>
   e=.returned (.int .i64 (checkI (elems h v c) nw nb need cl))∧Below w.heap.size w w':=by
 have H:=zH (And.intro h0 (And.intro h1 h2))
 unfold maxLen at hnw hnb
 rw [inK_i64] at hcl
 clear h0 h1 h2
 obtain ⟨mb1,mb2⟩:=elems_bdv h v c
 have EL:=zH (fun w=>elems_any h c v w H.out.1 H.out.2.1 H.out.2.2)
 generalize elems h v c=m at *
 have FR:=zH (Far.refl w)
 obtain ⟨w1,hw_w1,BS,k_w1⟩:=nB w (sN h v c) 23
 replace FR:=zH (FR.out.fut k_w1)
 clear k_w1
 obtain ⟨w2,hw_w2,BH,k_w2⟩:=nB w1 #[.slice W nw cw,.slice B nb cb,.int .i32 need] 47
 replace FR:=zH (FR.out.fut k_w2)
 replace BS:=zH (BS.out.fut k_w2)
 clear k_w2
 have cS:=fun i=>BS.out.cell i
 have cH:=fun i=>BH.out.cell i
 by_cases z:m=0
 ·subst z
  have C:=zH (show (5:Int)=checkI 0 nw nb need cl by unfold checkI;rw [if_pos rfl])
  go_enter Tryz.func135,Tryz.ntmps135
  go_wp2_with fail
  clear hw_w1 hw_w2
  refine (EL.out _).mono ?_
  rintro e w3 ⟨rfl,hb⟩
  replace FR:=zH (FR.out.fut hb)
  clear hb
  go_wp2_with fail
  go_ret
  exact ⟨ret_int C.out,FR.out.out⟩
 have t0:(m == 0)=false:=by simp;exact z
 by_cases c1:cl < 2
 ·have t1:decide (cl < 2)=true:=by simp;exact c1
  have C:=zH (show (2:Int)=checkI m nw nb need cl by unfold checkI;rw [if_neg z,if_pos (.inl c1)])
  clear z c1
  go_enter Tryz.func135,Tryz.ntmps135
  go_wp2_with fail
  clear hw_w1 hw_w2
  refine (EL.out _).mono ?_
  rintro e w3 ⟨rfl,hb⟩
  replace FR:=zH (FR.out.fut hb)
  clear hb
  go_wp2_with fail
  go_ret
  exact ⟨ret_int C.out,FR.out.out⟩
 have t1:decide (cl < 2)=false:=by simp;omega
 by_cases c2:16 < cl
 ·have t2:decide (16 < cl)=true:=by simp;exact c2
  have C:=zH (show (2:Int)=checkI m nw nb need cl by unfold checkI;rw [if_neg z,if_pos (.inr c2)])
  clear z c1 c2
  go_enter Tryz.func135,Tryz.ntmps135
  go_wp2_with fail
  clear hw_w1 hw_w2
  refine (EL.out _).mono ?_
  rintro e w3 ⟨rfl,hb⟩
  replace FR:=zH (FR.out.fut hb)
  clear hb
  go_wp2_with fail
  go_ret
  exact ⟨ret_int C.out,FR.out.out⟩
 have t2:decide (16 < cl)=false:=by simp;omega
 have pb:0≤cl*m∧cl*m≤16*1024:=⟨Int.mul_nonneg (by omega) (by omega),Int.mul_le_mul (by omega) (by omega) (by omega) (by omega)⟩
 have C0:checkI m nw nb need cl=if (nw:Int) ≠ cl*m ∨ 16384 < nw ∨ (nb:Int) ≠ cl then 9 else if need < 0 then 11 else 0:=by unfold checkI;rw [if_neg z,if_neg (by omega)]
 have CC:=zH C0
 have e1:IntKind.i64.wrap (cl*m)=cl*m:=IntWalk.i64_in _ (by omega)
 clear C0
 obtain ⟨p,hp⟩:∃ p,cl*m=p:=⟨_,rfl⟩
 rw [hp] at e1 CC pb
 have e2:IntKind.i64.wrap (cl*m)=p:=by rw [hp];exact e1
 have E2:=zH e2
 clear hp e1 c1 c2 z e2
 have bad:(nw:Int) ≠ p ∨ 16384 < nw ∨ (nb:Int) ≠ cl → Calls Tryz.prog 135 #[.agg (sN h v c),.agg #[.slice W nw cw,.slice B nb cb,.int .i32 need],.int .i64 cl] w fun e w'=>e=.returned (.int .i64 9)∧Below w.heap.size w w':=by
  intro hbad
  by_cases d1:(nw:Int)=p
  ·have u1:((nw:Int) != p)=false:=by simp;exact d1
   by_cases d2:16384 < nw
   ·have u2:decide ((16384:Int) < (nw:Int))=true:=by simp;omega
    clear hbad d1 CC
    have e2:=E2.out
    go_enter Tryz.func135,Tryz.ntmps135
    go_wp2_with fail
    clear hw_w1 hw_w2 cS cH
    refine (EL.out _).mono ?_
    rintro e w3 ⟨rfl,hb⟩
    replace FR:=zH (FR.out.fut hb)
    replace BH:=zH (BH.out.fut hb)
    clear hb
    have cH:=fun i=>BH.out.cell i
    go_wp2_with fail
    go_ret
    exact ⟨rfl,FR.out.out⟩
   ·have u2:decide ((16384:Int) < (nw:Int))=false:=by simp;omega
    have u3:((nb:Int) != cl)=true:=by simp;omega
    clear hbad d1 CC
    have e2:=E2.out
    go_enter Tryz.func135,Tryz.ntmps135
    go_wp2_with fail
    clear hw_w1 hw_w2 cS cH
    refine (EL.out _).mono ?_
    rintro e w3 ⟨rfl,hb⟩
    replace FR:=zH (FR.out.fut hb)
    replace BH:=zH (BH.out.fut hb)
    clear hb
    have cH:=fun i=>BH.out.cell i
    go_wp2_with fail
    go_ret
    exact ⟨rfl,FR.out.out⟩
  ·have u1:((nw:Int) != p)=true:=by simp;exact d1
   clear hbad d1 CC
   have e2:=E2.out
   go_enter Tryz.func135,Tryz.ntmps135
   go_wp2_with fail
   clear hw_w1 hw_w2 cS cH
   refine (EL.out _).mono ?_
   rintro e w3 ⟨rfl,hb⟩
   replace FR:=zH (FR.out.fut hb)
   replace BH:=zH (BH.out.fut hb)
   clear hb
   have cH:=fun i=>BH.out.cell i
   go_wp2_with fail
   go_ret
   exact ⟨rfl,FR.out.out⟩
 rw [CC.out]
 by_cases hbad:(nw:Int) ≠ p ∨ 16384 < nw ∨ (nb:Int) ≠ cl
 ·rw [if_pos hbad];exact bad hbad
 ·rw [if_neg hbad]
  have u1:((nw:Int) != p)=false:=by simp;omega
  have u2:decide ((16384:Int) < (nw:Int))=false:=by simp;omega
  have u3:((nb:Int) != cl)=false:=by simp;omega
  clear bad hbad CC
  have e2:=E2.out
  by_cases d:need < 0
  ·have u4:decide (need < 0)=true:=by simp;exact d
   rw [if_pos d]
   clear d
   go_enter Tryz.func135,Tryz.ntmps135
   go_wp2_with fail
   clear hw_w1 hw_w2 cS cH
   refine (EL.out _).mono ?_
   rintro e w3 ⟨rfl,hb⟩
   replace FR:=zH (FR.out.fut hb)
   replace BH:=zH (BH.out.fut hb)
   clear hb
   have cH:=fun i=>BH.out.cell i
   go_wp2_with fail
   go_ret
   exact ⟨rfl,FR.out.out⟩
  ·have u4:decide (need < 0)=false:=by simp;omega
   rw [if_neg d]
   clear d
   go_enter Tryz.func135,Tryz.ntmps135
   go_wp2_with fail
   clear hw_w1 hw_w2 cS cH
   refine (EL.out _).mono ?_
   rintro e w3 ⟨rfl,hb⟩
   replace FR:=zH (FR.out.fut hb)
   replace BH:=zH (BH.out.fut hb)
   clear hb
   have cH:=fun i=>BH.out.cell i
   go_wp2_with fail
   go_ret
   exact ⟨rfl,FR.out.out⟩
theorem ringNew_any (m:Int) (w:World) (h1:1≤m) (h2:m≤16) :
  Calls Tryz.prog 34 #[.int .i64 m] w fun e w'=>e=.returned (.tuple #[.pointer (some ⟨w.heap.size,0,none⟩),.int .i64 0])∧RingAt w' w.heap.size [] [] m∧Below w.heap.size w w':=by
 have t1:decide (m < 1)=false:=by simp;omega
 have t2:decide (16 < m)=false:=by simp;omega
 go_enter Tryz.func34,Tryz.ntmps34
 go_wp2_with fail
 go_ret2
 exact ⟨rfl,⟨none,0,0,none,0,0,Blk.now _ _ _ _ rfl,Sl.nil _ _ _,Sl.nil _ _ _⟩,(Below.refl _ _).alloc (Nat.le_refl _) _⟩
end Go.Proofs.YtppcjcigekoipaaGreat
