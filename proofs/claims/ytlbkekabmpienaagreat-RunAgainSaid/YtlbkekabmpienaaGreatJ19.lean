/-
  'T{x}' of one struct: a block of its cells (a law for the operation, so that the walk need not run it).
  Sums by rows that are slid over (layer 16): the walk of lane.line.
  Sums by rows that are slid over (layer 16): the walk of lane.line, of which lane.Of's rows are made.
  Windows as rows (layers 12, 14): a row of the windows times a row of weights is the window's sum.
  The numbers in a window of one channel (layer 19, the document's Window).
  The greatest number (layer 19: pool.greatest, slices.Max).
  The document's comparison of equal tensors (layer 5).
-/
import Derived.Test.YtlbkekabmpienaaGreatJ00
import Derived.Test.YtlbkekabmpienaaGreatJ11
import Derived.Test.YtlbkekabmpienaaGreatJ16
import Derived.Test.YtlbkekabmpienaaGreatJ06
import Derived.Test.YtlbkekabmpienaaGreatJ18
import Derived.Test.YtlbkekabmpienaaGreatJ15
import Derived.Test.YtlbkekabmpienaaGreatChecked
import Derived.Test.YtlbkekabmpienaaGreatJ01
set_option linter.unusedVariables false
set_option linter.unusedSimpArgs false
namespace Go.Proofs.YtlbkekabmpienaaGreat
open Go Go.RowKit
theorem fold_putAt (off:Nat):∀ (l:List Value) (k:Nat) (cs:Array Value),(l.zipIdx k).foldl (fun cs (x:Value × Nat)=>cs.setIfInBounds (off+x.2) x.1) cs=putAt cs (off+k) l
 | [],_,_=>rfl
 | v :: r,k,cs=>by
  rw [List.zipIdx_cons,List.foldl_cons,fold_putAt off r (k+1)]
  rfl
theorem fill_one (cells vs:Array Value) (size:Nat) (h1:vs.size=size) (h2:cells.size=size):Instr.fill (fun i=>some (i*size,size)) cells [(0,.agg vs)]=some vs:=by
 have hv:(Value.agg vs).cells=vs:=rfl
 unfold Instr.fill
 simp only [hv,Nat.zero_mul,Nat.zero_add]
 rw [if_neg (by simp;omega)]
 unfold Instr.fill
 have:=fold_putAt 0 vs.toList 0 cells
 simp only [Nat.zero_add] at this
 rw [← Array.foldl_toList,Array.toList_zipIdx,this]
 congr 1
 exact putAt_full (by omega)
theorem run_lit1 {P:Program} {T E:TypeId} {z:Value} {size bytes:Nat} (w:World) (ei:EI P T E z size bytes) (vs:Array Value) (hvs:vs.size=size) (hsm:size≤16777216) :
  (Instr.buildSlice T 1 #[(0,.agg vs)]).run P w=.ok (.slice (some ⟨w.heap.size,0,none⟩) 1 1) (w.alloc (.cells vs E)):=by
 obtain ⟨i,hi,hz0,hz1,hz2⟩:=info_parts ei.hi
 have hp:=ei.hp
 have hsz:(sizeOf E).run P w=.ok size w:=by simp [sizeOf,typeInfo,hi,hz1]
 have hzv:(zeroValue E).run P w=.ok z w:=by simp [zeroValue,typeInfo,hi,hz0]
 have hf:=fill_one ((Array.range (1*size)).map (z.cells[· % z.cells.size]!)) vs size hvs (by simp)
 have hnot:¬ (1*size > 2 ^ 24):=by omega
 have hnz:¬ (1*size=0):=by omega
 unfold Instr.buildSlice
 simp only [Sem.run_bind,run_underlying ei.ht w,Result.andThen_ok,hsz,if_neg hnot,if_neg hnz,hzv,Sem.run_pure,hf,newRow,newObj]
 rfl
section
variable {P:Program} {ops:Array Oper} {rest:List Oper} {o:Oper} {a:Act} {w:World} {Q:Exit → Act → World → Prop} {T E:TypeId} {z:Value} {size bytes:Nat}
end
end Go.Proofs.YtlbkekabmpienaaGreat
namespace Go.Proofs.YtlbkekabmpienaaGreat
set_option linter.unusedVariables false
set_option linter.unusedSimpArgs false
open Go.RowKit Go.ChangeShapes Go.WideShapes Fx
set_option maxRecDepth 100000
set_option maxHeartbeats 2000000
theorem ei_rows16:EI Tryz.prog 140 102 (.slice none 0 0) 1 24:=⟨Tryz.underlying140,by kernel_rfl,rfl,by decide⟩
theorem ei_taps:EI Tryz.prog 141 143 (.agg #[.int .i8 0,.int .i8 0,.int .i8 0]) 3 3:=⟨Tryz.underlying141,by kernel_rfl,rfl,by decide⟩
theorem Own.more {α:Type} {t:Ty α} {w:World} {S S':Nat → Prop} {base n:Nat} {E:TypeId} {v:Value} {l:List α} (h:Own t w S base E v n l) (hs:∀ b,S b → S' b):Own t w S' base E v n l:=by
 obtain ⟨vs,h1,h2⟩:=h.out
 exact ⟨vs,h1,h2.more hs⟩
theorem Blk.row' {w w':World} {g:Nat} {e:TypeId} {cs:Array Value} {r:Option Nat} (h:Blk w g e cs) (hg:w.grownBy w' r) (hne:some g ≠ r):Blk w' g e cs:=⟨by rw [hg.block g h.lt hne];exact h.heap⟩
/-- Where the rows of rows lie: the call's own blocks but the two lists' own. -/
def rowsAt (base:Nat) (u v:Value) (w:World):Nat → Prop:=fun b=>base≤b∧b < w.heap.size∧some b ≠ u.ownBlock∧some b ≠ v.ownBlock
/-- The two lists as far as they are filled. -/
structure Lists (base:Nat) (xs:List (List Int)) (ws:List W3) (k:Nat) (u v:Value) (w:World):Prop where
 rows:Own (tSlice (tInt .i16)) w (rowsAt base u v w) base 102 u k xs
 taps:Own tW3 w (fun _=>False) base 143 v k ws
 ne:u.ownBlock=none ∨ u.ownBlock ≠ v.ownBlock
theorem Lists.below {base k:Nat} {xs ws u v w w'} (h:Lists base xs ws k u v w) (hb:Below w.heap.size w w'):Lists base xs ws k u v w' :=
 ⟨(h.rows.below hb (Nat.le_refl _) (fun b hb=>hb.2.1)).more fun b ⟨h1,h2,h3⟩=>⟨h1,Nat.lt_of_lt_of_le h2 hb.size,h3⟩,h.taps.below hb (Nat.le_refl _) (fun _ h=>h.elim),h.ne⟩
theorem Lists.row {base k:Nat} {xs ws u v w u' w' ys} (h:Lists base xs ws k u v w) (ho:Own (tSlice (tInt .i16)) w' (rowsAt base u v w) base 102 u' (k+1) ys) (hg:w.grownBy w' u.ownBlock) (ha:u'.ownBlock=u.ownBlock ∨ u'.ownBlock=some (w.heap.size+1)) :
  Own (tSlice (tInt .i16)) w' (rowsAt base u' v w') base 102 u' (k+1) ys∧Own tW3 w' (fun _=>False) base 143 v k ws∧(u'.ownBlock=none ∨ u'.ownBlock ≠ v.ownBlock):=by
 refine ⟨ho.more fun b ⟨h1,h2,h3,h4⟩=>⟨h1,Nat.lt_of_lt_of_le h2 hg.size,?_,h4⟩,h.taps.flat hg ?_ (fun _ h=>h),?_⟩
 ·rcases ha with e|e
  ·rw [e];exact h3
  ·rw [e];intro h;injection h;omega
 ·rcases h.ne with e|e
  ·cases hv:v.ownBlock with
   | none=>exact .inl rfl
   | some m=>right;rw [e];simp
  ·exact .inr fun h=>e h.symm
 ·rcases ha with e|e
  ·rw [e];exact h.ne
  ·right
   rw [e]
   intro h'
   have:=(h.taps.lt _ h'.symm).2
   omega
theorem Lists.tap {base k kk:Nat} {xs ws u v w v' w' ys} (h1:Own (tSlice (tInt .i16)) w (rowsAt base u v w) base 102 u k xs) (h2:Own tW3 w (fun _=>False) base 143 v kk ws) (h3:u.ownBlock=none ∨ u.ownBlock ≠ v.ownBlock)
  (ho:Own tW3 w' (fun _=>False) base 143 v' k ys) (hg:w.grownBy w' v.ownBlock) (ha:v'.ownBlock=v.ownBlock ∨ v'.ownBlock=some (w.heap.size+1)):Lists base xs ys k u v' w':=by
 refine ⟨(h1.kept hg h3 (fun b hb=>⟨hb.2.1,hb.2.2.2⟩)).more fun b ⟨a1,a2,a3,a4⟩=>⟨a1,Nat.lt_of_lt_of_le a2 hg.size,a3,?_⟩,ho,?_⟩
 ·rcases ha with e|e
  ·rw [e];exact a4
  ·rw [e];intro h;injection h;omega
 ·rcases ha with e|e
  ·rw [e];exact h3
  ·rcases h3 with h3|h3
   ·exact .inl h3
   ·cases hu:u.ownBlock with
    | none=>exact .inl rfl
    | some m =>
     right
     rw [e]
     intro h'
     have:=(h1.lt _ hu).2
     injection h'
     omega
theorem oper_lit1 {P:Program} {o:Oper} {a:Act} {w:World} {Q:Go.Exit → Act → World → Prop} {K:Act → World → Prop} {T E:TypeId} {z:Value} {size bytes:Nat} (x:Operand) (ho:o.op=.buildSlice T 1 #[(0,x)]) (ei:EI P T E z size bytes)
  (vs:Array Value) (hx:a.eval x=.agg vs) (hvs:vs.size=size) (hsm:size≤16777216)
  (h:K (a.put o.dst (.slice (some ⟨w.heap.size,0,none⟩) 1 1)) (w.alloc (.cells vs E))):o.wp P a w K Q:=by
 unfold Oper.wp execOp
 simp only [ho,List.map_toArray,List.map_cons,List.map_nil,hx,Sem.run_bind,run_lit1 w ei vs hvs hsm,Sem.run_pure,Result.andThen_ok]
 exact h
theorem row_div (i c C:Nat) (hc:c < C):(i*C+c) / C=i∧(i*C+c) % C=c :=
 ⟨by rw [Nat.mul_comm,Nat.mul_add_div (by omega),Nat.div_eq_of_lt hc,Nat.add_zero],by rw [Nat.mul_comm,Nat.mul_add_mod,Nat.mod_eq_of_lt hc]⟩
theorem rowsV_snoc {α:Type} (f:Nat → α) (r:Nat):(List.range r).map f ++ [f r]=(List.range (r+1)).map f:=by simp [List.range_succ]
end Go.Proofs.YtlbkekabmpienaaGreat
namespace Go.Proofs.YtlbkekabmpienaaGreat
set_option linter.unusedVariables false
set_option linter.unusedSimpArgs false
open Go.RowKit Go.ChangeShapes Go.WideShapes Fx
set_option maxRecDepth 100000
set_option maxHeartbeats 2000000
theorem lanesLine_any (H V C P:Nat) (A:Option Addr) (n cap:Nat) (l:List Int) (d:Node) (W:Option Addr) (nw cw:Nat) (B:Option Addr) (nb cb:Nat) (h o:Nat) (w:World)
  (hl:Sl (tInt .i8) w (blo w.heap.size) A n cap l) (hwl:Sl (tInt .i8) w (blo w.heap.size) W nw cw d.w) (hn:n=H*V*C) (hn2:n≤1048576) (hV:V≤1048576) (hC1:1≤C) (hC:C≤341) (hp:d.p=P) (hP:P≤4) (hz:InK .i8 d.za)
  (hh:h≤1000000) (hH:H≤1048576) (ho:o≤1024) (hnw:(o+1)*(9*C)≤nw) (hm:V+2*P≤1000000) :
  Calls Tryz.prog 76 #[.agg #[.int .i64 H,.int .i64 V,.int .i64 C,.slice A n cap,.int .i64 d.kind,.int .i64 d.a,.int .i64 d.b,.int .i64 d.k,.int .i64 d.s,.int .i64 d.p,.int .i64 d.out,.int .i8 d.za,.int .i8 d.zb,.slice W nw cw,.slice B nb cb,.int .i32 d.qm,.int .i64 d.qs,.int .i8 d.qz,.int .i32 d.rm,.int .i64 d.rs,.int .i8 d.rz,.int .i8 d.lo,.int .i8 d.hi],.int .i64 h,.int .i64 o] w (RetSl (tInt .i64) w (manyV (rowsV H V C l d.za P h) (tapsV d.w C o) (V+2*P) (3*C))):=by
 have FR:=zH (Far.refl w)
 have OL:=zH (Old.now hl)
 have OW:=zH (Old.now hwl)
 obtain ⟨w1,hw_w1,BA,k_w1⟩:=nB w #[.int .i64 H,.int .i64 V,.int .i64 C,.slice A n cap,.int .i64 d.kind,.int .i64 d.a,.int .i64 d.b,.int .i64 d.k,.int .i64 d.s,.int .i64 d.p,.int .i64 d.out,.int .i8 d.za,.int .i8 d.zb,.slice W nw cw,.slice B nb cb,.int .i32 d.qm,.int .i64 d.qs,.int .i8 d.qz,.int .i32 d.rm,.int .i64 d.rs,.int .i8 d.rz,.int .i8 d.lo,.int .i8 d.hi] 99
 replace FR:=zH (FR.out.fut k_w1)
 replace OL:=zH (OL.out.fut k_w1)
 replace OW:=zH (OW.out.fut k_w1)
 clear k_w1
 have c2:=BA.out.cell 2
 have HN:=zH hn
 have HP:=zH hp
 have HNW:=zH hnw
 have HZ:=zH hz
 have l1:w1.heap.size=w.heap.size+1:=by rw [← hw_w1];simp
 have LI:=zH (show Lists w1.heap.size ((List.range 0).map fun r:Nat=>rowV H V C l d.za P ((h+r / C:Nat) - P) (r % C)) ((List.range 0).map fun r:Nat=>tapV d.w C o (r / C) (r % C)) 0 (.slice none 0 0) (.slice none 0 0) w1 from ⟨Own.nil _ _ _ _ _,Own.nil _ _ _ _ _,.inl rfl⟩)
 clear hn hp hnw hz hl hwl
 go_enter Tryz.func76,Tryz.ntmps76
 go_wp2_with fail
 clear hw_w1 c2
 obtain ⟨g0,e0⟩:∃ m,w.heap.size=m:=⟨_,rfl⟩
 obtain ⟨g1,e1⟩:∃ m,w1.heap.size=m:=⟨_,rfl⟩
 rw [e0,e1] at l1
 rw [e0] at BA
 rw [e1] at LI
 rw [e0]
 have lwg:w.heap.size≤g1:=by omega
 go_loopw [7,8,11] (fun u v ii wr=>∃ i:Nat,i≤3∧ii=.int .i64 i∧Far w wr∧Old w (tInt .i8) wr A n cap l∧Old w (tInt .i8) wr W nw cw d.w∧Blk wr g0 99 #[.int .i64 H,.int .i64 V,.int .i64 C,.slice A n cap,.int .i64 d.kind,.int .i64 d.a,.int .i64 d.b,.int .i64 d.k,.int .i64 d.s,.int .i64 d.p,.int .i64 d.out,.int .i8 d.za,.int .i8 d.zb,.slice W nw cw,.slice B nb cb,.int .i32 d.qm,.int .i64 d.qs,.int .i8 d.qz,.int .i32 d.rm,.int .i64 d.rs,.int .i8 d.rz,.int .i8 d.lo,.int .i8 d.hi] ∧
   Lists g1 ((List.range (i*C)).map fun r:Nat=>rowV H V C l d.za P ((h+r / C:Nat) - P) (r % C)) ((List.range (i*C)).map fun r:Nat=>tapV d.w C o (r / C) (r % C)) (i*C) u v wr) (fun _ _ ii _=>3 - (intOf ii).toNat)
 case atStart=>exact ⟨0,Nat.zero_le _,rfl,FR.out,OL.out,OW.out,BA.out,by rw [Nat.zero_mul];exact LI.out⟩
 case round =>
  obtain ⟨i,hi,rfl,hf,hol,how,hba,hli⟩:=hrel
  clear FR OL OW BA LI
  have FR:=zH hf
  have OL:=zH hol
  have OW:=zH how
  have BA:=zH hba
  have LI:=zH hli
  clear hf hol how hba hli
  by_cases hlt:i < 3
  ·have p1:(i:Int) < 3:=by omega
   have c2:=BA.out.cell 2
   go_wp2_with fail
   clear c2
   go_loopw [7,8,18] (fun u v ii wr=>∃ c:Nat,c≤C∧ii=.int .i64 c∧Far w wr∧Old w (tInt .i8) wr A n cap l∧Old w (tInt .i8) wr W nw cw d.w∧Blk wr g0 99 #[.int .i64 H,.int .i64 V,.int .i64 C,.slice A n cap,.int .i64 d.kind,.int .i64 d.a,.int .i64 d.b,.int .i64 d.k,.int .i64 d.s,.int .i64 d.p,.int .i64 d.out,.int .i8 d.za,.int .i8 d.zb,.slice W nw cw,.slice B nb cb,.int .i32 d.qm,.int .i64 d.qs,.int .i8 d.qz,.int .i32 d.rm,.int .i64 d.rs,.int .i8 d.rz,.int .i8 d.lo,.int .i8 d.hi] ∧
    Lists g1 ((List.range (i*C+c)).map fun r:Nat=>rowV H V C l d.za P ((h+r / C:Nat) - P) (r % C)) ((List.range (i*C+c)).map fun r:Nat=>tapV d.w C o (r / C) (r % C)) (i*C+c) u v wr) (fun _ _ ii _=>C - (intOf ii).toNat)
   case atStart=>exact ⟨0,Nat.zero_le _,rfl,FR.out,OL.out,OW.out,BA.out,LI.out⟩
   case round =>
    obtain ⟨c,hc,rfl,hf,hol,how,hba,hli⟩:=hrel
    clear FR OL OW BA LI
    have FR:=zH hf
    have OL:=zH hol
    have OW:=zH how
    have BA:=zH hba
    have LI:=zH hli
    clear hf hol how hba hli
    by_cases hlc:c < C
    ·have p2:(c:Int) < (C:Int):=by omega
     go_wp2_with fail
     have hk2:i*C+c≤1024:=by
      have:i*C≤2*C:=Nat.mul_le_mul_right C (by omega)
      omega
     have c9:=BA.out.cell 9
     simp only [gX] at c9
     rw [HP.out] at c9
     obtain ⟨hi',hhi⟩:∃ m,h+i=m:=⟨_,rfl⟩
     have e1:IntKind.i64.wrap ((h:Int)+(i:Int))=(hi':Int):=(IntWalk.i64_in _ (by omega)).trans (by omega)
     have e2:IntKind.i64.wrap ((hi':Int) - (P:Int))=(hi':Int) - (P:Int):=IntWalk.i64_in _ (by omega)
     have kd:Below wr.heap.size wr wr.drew:=(Below.refl _ _).drew
     have FD:=zH (FR.out.fut kd)
     have OLD:=zH (OL.out.fut kd)
     have OWD:=zH (OW.out.fut kd)
     have LID:=zH (LI.out.below kd)
     have BAD:=zH (BA.out.fut kd)
     have c9d:=cell_later kd c9

     refine wp_region_held_drew (S:=fun w'=>w'.cell? ⟨g0,9,none⟩=some (.int .i64 P)∧Blk w' g0 99 #[.int .i64 H,.int .i64 V,.int .i64 C,.slice A n cap,.int .i64 d.kind,.int .i64 d.a,.int .i64 d.b,.int .i64 d.k,.int .i64 d.s,.int .i64 d.p,.int .i64 d.out,.int .i8 d.za,.int .i8 d.zb,.slice W nw cw,.slice B nb cb,.int .i32 d.qm,.int .i64 d.qs,.int .i8 d.qz,.int .i32 d.rm,.int .i64 d.rs,.int .i8 d.rz,.int .i8 d.lo,.int .i8 d.hi]∧Below w.heap.size w w') (by kernel_rfl) ?_ (fun hS=>?_)
     ·exact ⟨c9d,BAD.out,FD.out.out⟩
     refine tkH 0 rfl (v:=?_) (Or.inl ⟨by rfl,?_⟩) hS ?_
     rotate_left
     ·intro w hSw;(try dsimp only at hSw);go_simp;try with_reducible rfl
     try simp only [pX]
     refine tkH 1 rfl (yieldsIf_load_blk (by rfl) 99 (.tmp 3) rfl g0 0 rfl _ _ #[.int .i64 H,.int .i64 V,.int .i64 C,.slice A n cap,.int .i64 d.kind,.int .i64 d.a,.int .i64 d.b,.int .i64 d.k,.int .i64 d.s,.int .i64 d.p,.int .i64 d.out,.int .i8 d.za,.int .i8 d.zb,.slice W nw cw,.slice B nb cb,.int .i32 d.qm,.int .i64 d.qs,.int .i8 d.qz,.int .i32 d.rm,.int .i64 d.rs,.int .i8 d.rz,.int .i8 d.lo,.int .i8 d.hi] _ (fun w hs=>hs.2.1) Tryz.underlying99 rfl (by kernel_rfl) rfl) hS ?_
     try simp only [pX]
     refine tkH 2 rfl (v:=?_) (Or.inl ⟨by rfl,?_⟩) hS ?_
     rotate_left
     ·intro w hSw;(try dsimp only at hSw);go_simp;try with_reducible rfl
     try simp only [pX]
     refine tkH 3 rfl (v:=?_) (Or.inl ⟨by rfl,?_⟩) hS ?_
     rotate_left
     ·intro w hSw;(try dsimp only at hSw);go_simp;try with_reducible rfl
     try simp only [pX]
     refine tkH 4 rfl (v:=?_) (Or.inl ⟨by rfl,?_⟩) hS ?_
     rotate_left
     ·intro w hSw;(try dsimp only at hSw);go_simp;try with_reducible rfl
     try simp only [pX]
     refine tkH 5 rfl (v:=?_) (Or.inl ⟨by rfl,?_⟩) hS ?_
     rotate_left
     ·intro w hSw;(try dsimp only at hSw);go_simp;try with_reducible rfl
     try simp only [pX]
     refine tkH 6 rfl (v:=?_) (Or.inl ⟨by rfl,?_⟩) hS ?_
     rotate_left
     ·intro w hSw;(try dsimp only at hSw);go_simp;try with_reducible rfl
     try simp only [pX]
     refine tkH 7 rfl (v:=?_) (Or.inl ⟨by rfl,?_⟩) hS ?_
     rotate_left
     ·intro w hSw;(try dsimp only at hSw);go_simp;try with_reducible rfl
     try simp only [pX]
     refine tkH 8 rfl (v:=?_) (Or.inl ⟨by rfl,?_⟩) hS ?_
     rotate_left
     ·intro w hSw;(try dsimp only at hSw);go_simp;try with_reducible rfl
     try simp only [pX]
     refine tkH 9 rfl (v:=?_) (Or.inl ⟨by rfl,?_⟩) hS ?_
     rotate_left
     ·intro w hSw;(try dsimp only at hSw);go_simp;try with_reducible rfl
     try simp only [pX]
     refine tkH 13 rfl (v:=?_) (Or.inl ⟨by rfl,?_⟩) hS ?_
     rotate_left
     ·intro w hSw;(try dsimp only at hSw);go_simp;try with_reducible rfl
     try simp only [pX]
     refine tkH 14 rfl (yieldsIf_load_blk (by rfl) 99 (.tmp 3) rfl g0 0 rfl _ _ #[.int .i64 H,.int .i64 V,.int .i64 C,.slice A n cap,.int .i64 d.kind,.int .i64 d.a,.int .i64 d.b,.int .i64 d.k,.int .i64 d.s,.int .i64 d.p,.int .i64 d.out,.int .i8 d.za,.int .i8 d.zb,.slice W nw cw,.slice B nb cb,.int .i32 d.qm,.int .i64 d.qs,.int .i8 d.qz,.int .i32 d.rm,.int .i64 d.rs,.int .i8 d.rz,.int .i8 d.lo,.int .i8 d.hi] _ (fun w hs=>hs.2.1) Tryz.underlying99 rfl (by kernel_rfl) rfl) hS ?_
     try simp only [pX]
     refine tkH 15 rfl (v:=?_) (Or.inl ⟨by rfl,?_⟩) hS ?_
     rotate_left
     ·intro w hSw;(try dsimp only at hSw);go_simp;try with_reducible rfl
     try simp only [pX]
     refine tkH 16 rfl (v:=?_) (Or.inl ⟨by rfl,?_⟩) hS ?_
     rotate_left
     ·intro w hSw;(try dsimp only at hSw);go_simp;try with_reducible rfl
     try simp only [pX]
     refine tkH 17 rfl (v:=?_) (Or.inl ⟨by rfl,?_⟩) hS ?_
     rotate_left
     ·intro w hSw;(try dsimp only at hSw);go_simp;try with_reducible rfl
     try simp only [pX]
     refine wpAnyH_ready (rs:=[10]) (by kernel_rfl) (by simp) ?_
     refine AllReadyH.cons rfl (fun K hK=>?_) AllReadyH.nil
     go_simp
     (refine (row_any H V C P A n cap l d W nw cw B nb cb _ c _ OLD.out.all HN.out hn2 hV (by omega) HP.out hP HZ.out hlc (by omega) (by omega) hH).mono ?_;rintro e w3 ⟨RA,rn,rc,rfl,rs,hb⟩;have F3:=zH (FD.out.fut hb);have LI3:=zH (LID.out.below hb);have BK3:=zH (BAD.out.fut hb);have k9:=cell_later hb c9d;have OL3:=zH (OLD.out.fut hb);have OW3:=zH (OWD.out.fut hb);have lg3:g1≤w3.heap.size:=(by have:=BK3.out.lt;omega);have RS:=zH (rs.more (S':=rowsAt g1 u7 u8 w3) (fun b hb'=>⟨by have:=BAD.out.lt;have:=hb'.1;omega,hb'.2,fun e=>absurd (LID.out.rows.lt b e.symm).2 (Nat.not_lt.2 hb'.1),fun e=>absurd (LID.out.taps.lt b e.symm).2 (Nat.not_lt.2 hb'.1)⟩));have nu:=zH (show some g0 ≠ u7.ownBlock from fun e=>absurd (LI3.out.rows.lt g0 e.symm).1 (by omega));have nv:=zH (show some g0 ≠ u8.ownBlock from fun e=>absurd (LI3.out.taps.lt g0 e.symm).1 (by omega)))
     refine hK.out _ _ ?_ (fun hS=>?_)
     ·exact ⟨(by first|exact cell_later hb hS.1|exact Blk.later hS.1 hb),(by first|exact cell_later hb hS.2.1|exact Blk.later hS.2.1 hb),below_later hb hS.2.2⟩
     clear hK K
     try simp only [pX]
     refine wpAnyH_ready (rs:=[11]) (by kernel_rfl) (by simp) ?_
     refine AllReadyH.cons rfl (fun K hK=>?_) AllReadyH.nil
     go_simp
     have hb2:Below w3.heap.size w3 (w3.alloc (.cells #[.slice RA rn rc] 102)):=(Below.refl _ _).alloc (Nat.le_refl _) _;have hb:Below w3.heap.size w3 (w3.alloc (.cells #[.slice RA rn rc] 102)):=hb2
     refine hK.out _ _ ?_ (fun hS=>?_)
     ·exact ⟨(by first|exact cell_later hb hS.1|exact Blk.later hS.1 hb),(by first|exact cell_later hb hS.2.1|exact Blk.later hS.2.1 hb),below_later hb hS.2.2⟩
     clear hK K
     try simp only [pX]
     refine wpAnyH_ready (rs:=[12]) (by kernel_rfl) (by simp) ?_
     refine AllReadyH.cons rfl (fun K hK=>?_) AllReadyH.nil
     (rw [if_pos (by rfl)];refine oper_push (W:=w3) (cs:=#[.slice RA rn rc]) (E:=102) (t:=tSlice (tInt .i16)) (.tmp 21) (.tmp 32) rfl ei_rows16 rfl LI3.out.rows 1 rfl (rowV H V C l d.za P ((hi':Int) - P) c) RS.out.rep (by unfold maxLen;omega) (by omega) lg3 (fun b hb=>⟨hb.2.1,hb.2.2.1⟩) ?_;intro u4 w4 own1 gr1 at1;refine hK.out _ _ ⟨cell_grown gr1 k9 nu.out,BK3.out.row' gr1 nu.out,F3.out.out.grown gr1 F3.out.size (fun k h=>Nat.le_trans lwg (LI3.out.rows.lt k h).1)⟩ (fun hS=>?_);have R3:=LI3.out.row own1 gr1 at1;have O1:=zH R3.1;have O2:=zH R3.2.1;have N1:=zH R3.2.2;have F4:=zH (show Far w w4 from ⟨hS.2.2⟩);have OL4:=zH (OL3.out.row gr1 (fun k h=>Nat.le_trans lwg (LI3.out.rows.lt k h).1));have OW4:=zH (OW3.out.row gr1 (fun k h=>Nat.le_trans lwg (LI3.out.rows.lt k h).1));clear R3 own1 gr1 at1 hb hb2)
     clear hK K
     try simp only [pX]
     refine wpAnyH_ready (rs:=[18]) (by kernel_rfl) (by simp) ?_
     refine AllReadyH.cons rfl (fun K hK=>?_) AllReadyH.nil
     go_simp
     (refine (tap_any H V C A n cap d W nw cw B nb cb o i c _ OW4.out.all (by omega) ho hlt hlc HNW.out).mono ?_;rintro e w5 ⟨rfl,hb⟩;have F5:=zH (F4.out.fut hb);have OL5:=zH (OL4.out.fut hb);have OW5:=zH (OW4.out.fut hb);have P1:=zH ((O1.out.below hb (Nat.le_refl _) (fun b hb=>hb.2.1)).more (S':=rowsAt g1 u4 u8 w5) fun b ⟨h1,h2,h3⟩=>⟨h1,Nat.lt_of_lt_of_le h2 hb.size,h3⟩);have P2:=zH (O2.out.below hb (Nat.le_refl _) (fun _ h=>h.elim));have lg5:g1≤w5.heap.size:=(by have:=hS.2.1.lt;have:=hb.size;omega))
     refine hK.out _ _ ?_ (fun hS=>?_)
     ·exact ⟨(by first|exact cell_later hb hS.1|exact Blk.later hS.1 hb),(by first|exact cell_later hb hS.2.1|exact Blk.later hS.2.1 hb),below_later hb hS.2.2⟩
     clear hK K
     try simp only [pX]
     refine wpAnyH_ready (rs:=[19]) (by kernel_rfl) (by simp) ?_
     refine AllReadyH.cons rfl (fun K hK=>?_) AllReadyH.nil
     (rw [if_pos (by rfl)];have S5:=zH hS;refine oper_lit1 (.tmp 39) rfl ei_taps (i3 .i8 (fun j=>d.w.getD (((o*3+i)*3+j)*C+c) 0)) rfl rfl (by decide) ?_;have kb:Below w5.heap.size w5 (w5.alloc (.cells (i3 .i8 (fun j=>d.w.getD (((o*3+i)*3+j)*C+c) 0)) 143)):=(Below.refl _ _).alloc (Nat.le_refl _) _;refine hK.out _ _ ⟨cell_later kb hS.1,hS.2.1.later kb,below_later kb hS.2.2⟩ (fun hS=>?_);clear kb)
     clear hK K
     try simp only [pX]
     refine wpAnyH_ready (rs:=[20]) (by kernel_rfl) (by simp) ?_
     refine AllReadyH.cons rfl (fun K hK=>?_) AllReadyH.nil
     (rw [if_pos (by rfl)];refine oper_push (W:=w5) (cs:=i3 .i8 (fun j=>d.w.getD (((o*3+i)*3+j)*C+c) 0)) (E:=143) (t:=tW3) (.tmp 34) (.tmp 40) rfl ei_taps rfl P2.out 1 rfl (tapV d.w C o i c) ⟨rfl,OW5.out.out.allK _,OW5.out.out.allK _,OW5.out.out.allK _⟩ (by unfold maxLen;omega) (by omega) lg5 (fun _ h=>h.elim) ?_;intro u6 w6 own2 gr2 at2;refine hK.out _ _ ⟨cell_grown gr2 S5.out.1 nv.out,S5.out.2.1.row' gr2 nv.out,S5.out.2.2.grown gr2 F5.out.size (fun k h=>Nat.le_trans lwg (P2.out.lt k h).1)⟩ (fun hS=>?_);have L6:=zH (Lists.tap P1.out P2.out N1.out own2 gr2 at2);have F6:=zH (show Far w w6 from ⟨hS.2.2⟩);have BK6:=zH hS.2.1;have OL6:=zH (OL5.out.row gr2 (fun k h=>Nat.le_trans lwg (P2.out.lt k h).1));have OW6:=zH (OW5.out.row gr2 (fun k h=>Nat.le_trans lwg (P2.out.lt k h).1));clear own2 gr2 at2)
     clear hK K
     try simp only [pX]
     refine tkH 21 rfl (v:=?_) (Or.inl ⟨by rfl,?_⟩) hS ?_
     rotate_left
     ·intro w hSw;(try dsimp only at hSw);go_simp;try with_reducible rfl
     try simp only [pX]
     refine tkH 22 rfl (v:=?_) (Or.inl ⟨by rfl,?_⟩) hS ?_
     rotate_left
     ·intro w hSw;(try dsimp only at hSw);go_simp;try with_reducible rfl
     try simp only [pX]
     refine wpAnyH_done (by kernel_rfl) ?_ _
     go_wp2_with fail
     refine ⟨⟨c+1,by omega,by go_num,F6.out,OL6.out,OW6.out,BK6.out,?_⟩,by simp [intOf];omega⟩
     have e3:=rowsV_snoc (fun r:Nat=>rowV H V C l d.za P ((h+r / C:Nat) - P) (r % C)) (i*C+c)
     have e4:=rowsV_snoc (fun r:Nat=>tapV d.w C o (r / C) (r % C)) (i*C+c)
     obtain ⟨dv,md⟩:=row_div i c C hlc
     rw [dv,md,hhi] at e3
     rw [dv,md] at e4
     have:=L6.out
     rw [e3,e4] at this
     exact this
    ·obtain rfl:c=C:=by omega
     go_wp2_with fail
     exact ⟨⟨i+1,by omega,by go_num,FR.out,OL.out,OW.out,BA.out,by rw [Nat.succ_mul];exact LI.out⟩,by simp [intOf];omega⟩
  ·obtain rfl:i=3:=by omega
   go_wp2_with fail
   have LS:=LI.out
   obtain ⟨A1,k1,rfl,s1⟩:=LS.rows.sl (S':=blo wr.heap.size) (by decide) (fun b _ h=>h) (fun b h=>h.2.1)
   obtain ⟨A2,k2,rfl,s2⟩:=LS.taps.sl (S':=blo wr.heap.size) (by decide) (fun b _ h=>h) (fun b h=>h.elim)
   refine (many_any A1 (3*C) k1 _ A2 k2 _ (V+2*P) wr s1 s2 (by omega) (by omega) (fun j hj=>?_) hm).mono ?_
   ·rw [getD_range _ _ _ _ hj];simp [rowV]
   rintro e w3 ⟨RA,rn,rc,rfl,rs,hb⟩
   go_wp2_with fail
   go_ret
   exact ⟨RA,rn,rc,rfl,rs.more (bin_more FR.out.size (Nat.le_refl _)),(FR.out.fut hb).out⟩
end Go.Proofs.YtlbkekabmpienaaGreat
namespace Go.Proofs.YtlbkekabmpienaaGreat
set_option linter.unusedVariables false
set_option linter.unusedSimpArgs false
theorem patch_conv (H V C:Nat) (l w:List Int) (za:Int) (K S P Wo i o:Nat) (hw:0 < K*K*C) :
  (sumN (K*K*C) fun k=>patchF H V C l za K S P Wo (i*(K*K*C)+k)*w.getD (o*(K*K*C)+k) 0)=convN H V C l za w K S P o (i / Wo) (i % Wo):=by
 unfold convN
 refine sumN_congr fun k hk=>?_
 have dv:(i*(K*K*C)+k) / (K*K*C)=i:=by rw [Nat.mul_comm,Nat.mul_add_div hw,Nat.div_eq_of_lt hk,Nat.add_zero]
 have md:(i*(K*K*C)+k) % (K*K*C)=k:=by rw [Nat.mul_comm,Nat.mul_add_mod,Nat.mod_eq_of_lt hk]
 unfold patchF
 rw [dv,md,Int.mul_comm]
end Go.Proofs.YtlbkekabmpienaaGreat
namespace Go.Proofs.YtlbkekabmpienaaGreat
set_option linter.unusedVariables false
set_option linter.unusedSimpArgs false
open Go.RowKit Go.ChangeShapes Go.WideShapes Fx
set_option maxRecDepth 100000
set_option maxHeartbeats 4000000
/-- The numbers that lie in a window, as far as its first places. -/
def winL (H V C:Nat) (l:List Int) (K S P:Nat) (c y x:Nat):Nat → List Int
 | 0=>[]
 | q+1=>if inside H V ((y*S+q / K:Nat) - (P:Int)) ((x*S+q % K:Nat) - (P:Int)) then winL H V C l K S P c y x q ++ [l.getD (placeV V C ((y*S+q / K:Nat) - (P:Int)) ((x*S+q % K:Nat) - (P:Int)) c) 0] else winL H V C l K S P c y x q
theorem winL_len (H V C:Nat) (l:List Int) (K S P:Nat) (c y x:Nat):∀ q,(winL H V C l K S P c y x q).length≤q
 | 0=>Nat.le_refl _
 | q+1=>by
  have ih:=winL_len H V C l K S P c y x q
  unfold winL
  split
  ·simp;omega
  ·omega
end Go.Proofs.YtlbkekabmpienaaGreat
namespace Go.Proofs.YtlbkekabmpienaaGreat
set_option linter.unusedVariables false
set_option linter.unusedSimpArgs false
open Go.RowKit Go.ChangeShapes Go.WideShapes Fx
set_option maxRecDepth 100000
set_option maxHeartbeats 4000000
theorem hiN_one (l:List Int):hiN l 1=l.getD 0 0:=by
 show (if hiN l 0 < l.getD 0 0 then l.getD 0 0 else hiN l 0)=_
 split
 ·rfl
 ·rfl
theorem max8_any (A:Option Addr) (n cap:Nat) (l:List Int) (w:World) (hl:Sl (tInt .i8) w (blo w.heap.size) A n cap l) (hn:n≤1024) (h1:1≤n) :
  Calls Tryz.prog 96 #[.slice A n cap] w fun e w'=>e=.returned (.int .i8 (hiN l n))∧w=w':=by
 have H:=zH hl
 clear hl
 obtain ⟨b,o,rfl,-,-,c0,i0⟩:=H.out.int_at 0 (by omega)
 rw [Nat.add_zero] at c0
 have t1:¬ (n:Int) < 1:=by omega
 have H0:=zH (hiN_one l)
 obtain ⟨x0,hx0⟩:∃ x,l.getD 0 0=x:=⟨_,rfl⟩
 rw [hx0] at c0 i0 H0
 clear hx0
 go_enter Tryz.func96,Tryz.ntmps96
 go_wp2_with fail
 clear c0
 go_loopw [3,4] (fun v ii wr=>∃ k:Nat,k≤n∧1≤k∧ii=.int .i64 k∧v=.int .i8 (hiN l k)∧w=wr) (fun _ ii _=>n - (intOf ii).toNat)
 case atStart=>exact ⟨1,h1,Nat.le_refl _,rfl,by rw [H0.out],rfl⟩
 case round =>
  obtain ⟨k,hk,hk1,rfl,rfl,rfl⟩:=hrel
  by_cases hlt:k < n
  ·have p1:(k:Int) < (n:Int):=by omega
   obtain ⟨b',o',e',-,-,cx,ix⟩:=H.out.int_at k hlt
   simp only [Option.some.injEq,Addr.mk.injEq,and_true] at e'
   obtain ⟨rfl,rfl⟩:=e'
   have HS:=zH (show hiN l (k+1)=if hiN l k < l.getD k 0 then l.getD k 0 else hiN l k from rfl)
   obtain ⟨x,hx⟩:∃ x,l.getD k 0=x:=⟨_,rfl⟩
   rw [hx] at cx ix HS
   clear hx
   go_wp2_with fail
   exact ⟨⟨k+1,by omega,by omega,by go_num,by rw [HS.out],by trivial⟩,by simp [intOf];omega⟩
  ·obtain rfl:k=n:=by omega
   go_wp2_with fail
   go_ret
   exact ⟨rfl,by trivial⟩
theorem greatest_any (A:Option Addr) (n cap:Nat) (l:List Int) (w:World) (hl:Sl (tInt .i8) w (blo w.heap.size) A n cap l) (hn:n≤1024) (h1:1≤n) :
  Calls Tryz.prog 53 #[.slice A n cap] w fun e w'=>e=.returned (.int .i8 (hiN l n))∧w=w':=by
 go_enter Tryz.func53,Tryz.ntmps53
 go_wp2_with (go_at_call 96;refine (max8_any A n cap l _ hl hn h1).mono ?_;rintro e w2 ⟨rfl,rfl⟩)
 go_ret
 exact ⟨rfl,rfl⟩
end Go.Proofs.YtlbkekabmpienaaGreat
namespace Go.Proofs.YtlbkekabmpienaaGreat
set_option linter.unusedVariables false
set_option linter.unusedSimpArgs false
open Go.RowKit Go.ChangeShapes Go.WideShapes
set_option maxRecDepth 100000
set_option maxHeartbeats 1000000
theorem same05_eq (t:Tensor) (A B:Option Addr) (n c m d:Nat) (w:World) (h:Sl (tInt .i8) w (blo w.heap.size) A n c t.data) (h':Sl (tInt .i8) w (blo w.heap.size) B m d t.data) :
  Calls Tryz.prog 12 #[.agg #[.int .i64 t.h,.int .i64 t.v,.int .i64 t.c,.slice A n c],.agg #[.int .i64 t.h,.int .i64 t.v,.int .i64 t.c,.slice B m d]] w fun e w'=>e=.returned (.bool true)∧Below w.heap.size w w':=by
 have hm:n≤9223372036854775807:=Nat.le_trans h.cap_le h.max_le
 have hnm:m=n:=h'.n_eq.symm.trans h.n_eq
 subst hnm
 have H:=zH h
 have H':=zH h'
 clear h h'
 obtain ⟨W2,hW2⟩:∃ W2,(w.alloc (.cells #[.int .i64 t.h,.int .i64 t.v,.int .i64 t.c,.slice A m c] 32)).alloc (.cells #[.int .i64 t.h,.int .i64 t.v,.int .i64 t.c,.slice B m d] 32)=W2:=⟨_,rfl⟩
 have g2:Below w.heap.size w W2:=by rw [← hW2];exact ((Below.refl _ _).alloc (Nat.le_refl _) _).alloc (by simp) _
 have BA:=zH (show Blk W2 w.heap.size 32 #[.int .i64 t.h,.int .i64 t.v,.int .i64 t.c,.slice A m c] by rw [← hW2];exact (Blk.now _ _ _ _ rfl).past _)
 have BB:=zH (show Blk W2 (w.heap.size+1) 32 #[.int .i64 t.h,.int .i64 t.v,.int .i64 t.c,.slice B m d] by rw [← hW2];exact Blk.now _ _ _ _ (by simp))
 have HW:=zH hW2
 clear hW2
 go_enter Tryz.func12,Tryz.ntmps12
 go_wp2_with fail
 rw [HW.out]
 clear HW
 have G2:=zH g2
 clear g2
 go_loopw [5] (fun i wr=>∃ k:Nat,k≤m∧i=.int .i64 k∧Below W2.heap.size W2 wr) (fun i _=>m - (intOf i).toNat)
 case atStart=>exact ⟨0,Nat.zero_le _,rfl,Below.refl _ _⟩
 case round =>
  obtain ⟨k,hk,rfl,hb⟩:=hrel
  have HB:=zH hb
  have bA:=BA.out.later hb
  have bB:=BB.out.later hb
  have a3:wr.cell? ⟨w.heap.size,3,none⟩=some (.slice A m c):=bA.cell 3
  have b3:wr.cell? ⟨w.heap.size+1,3,none⟩=some (.slice B m d):=bB.cell 3
  have g3:=below_call G2.out hb G2.out.size
  have G3:=zH g3
  by_cases hlt:k < m
  ·have t1:decide ((k:Int) < (m:Int))=true:=by simp;omega
   obtain ⟨b1,o1,rfl,_,_,c1,_⟩:=(H.out.later g3 (Nat.le_refl _)).int_at k hlt
   obtain ⟨b2,o2,rfl,_,_,c2,_⟩:=(H'.out.later g3 (Nat.le_refl _)).int_at k hlt
   generalize t.data.getD k 0=y at *
   have ty:(y != y)=false:=by simp
   have p0:(0:Int)≤(k:Int):=by omega
   have p1:(k:Int) < (m:Int):=by omega
   clear hb bA bB g3 hlt
   go_wp2_with fail
   go_quiet (fail)
   have hq:Below W2.heap.size W2 (wr.drewN nq):=below_drewN HB.out nq
   generalize wr.drewN nq=wq at *
   go_wp2_with fail
   exact ⟨⟨k+1,by omega,by go_num,hq⟩,by simp [intOf];omega⟩
  ·obtain rfl:k=m:=by omega
   have t1:decide ((k:Int) < (k:Int))=false:=by simp
   clear hb bA bB g3 hlt
   go_wp2_with fail
   go_ret
   exact ⟨rfl,G3.out⟩
end Go.Proofs.YtlbkekabmpienaaGreat
