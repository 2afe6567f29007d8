/-
  A row of the call's own, each element of which lies where its place says; parts of elements are stored.
  slices.Clone of []int32.
  What a node's kind tells (layer 25): kinds.Plain, some of the kinds.
  A product is shifted and rounded (layer 2): the document's Round.
  Numbers scaled and held (layer 2): fix.Scale, fix.Held, the document's Held.
  Between which numbers all rows of weights lie (layer 24): span.All, Holds, Both.
  A number scaled and held (layer 21): act.One, the document's One.
  The shape that a node makes (layers 18, 25): the document's Shape, put together.
-/
import Derived.Test.YthjmghjfklkmbaaGreatJ07
import Derived.Test.YthjmghjfklkmbaaGreatJ09
import Derived.Test.YthjmghjfklkmbaaGreatJ13
import Derived.Test.YthjmghjfklkmbaaGreatJ14
import Derived.Test.YthjmghjfklkmbaaGreatJ15
set_option linter.unusedVariables false
set_option linter.unusedSimpArgs false
namespace Go.Proofs.YthjmghjfklkmbaaGreat
open Go Go.RowKit Go.ChangeShapes Go.WideShapes
theorem below_grown {a b:World} {r:Option Nat} (h:Below a.heap.size a b):a.grownBy b r:=⟨h.os,h.tape,h.output,h.size,fun i hi _=>h.block i hi⟩
theorem grown_past {a b c:World} {r q:Option Nat} (h:a.grownBy b r) (k:b.grownBy c q) (hm:∀ m,q=some m → a.heap.size≤m):a.grownBy c r :=
 ⟨k.os.trans h.os,k.tape.trans h.tape,k.output.trans h.output,Nat.le_trans h.size k.size,fun i hi hne=>(k.block i (Nat.lt_of_lt_of_le hi h.size) (fun e=>by have:=hm i e.symm;omega)).trans (h.block i hi hne)⟩
theorem grown_new {a b c:World} {r:Option Nat} {m:Nat} (h:a.grownBy b r) (k:b.grownBy c (some m)) (hm:a.heap.size≤m):a.grownBy c r:=grown_past h k fun i hi=>by have:=Option.some.inj hi;omega
theorem Own.more {α:Type} {t:Ty α} {w:World} {S S':Nat → Prop} {base n:Nat} {E:TypeId} {v:Value} {l:List α} (h:Own t w S base E v n l) (hs:∀ b,S b → S' b):Own t w S' base E v n l:=by
 obtain ⟨vs,h1,h2⟩:=h.out
 exact ⟨vs,h1,h2.more hs⟩
theorem range_one {w:World} {g o:Nat} {v:Value} (h:w.cell? ⟨g,o,none⟩=some v):w.rangeAt g o [v]:=fun j x hx=>by
 cases j with
 | zero=>cases hx;exact h
 | succ j=>cases hx
structure OwnB {α:Type} (t:Ty α) (w:World) (S:Nat → Nat → Prop) (g:Nat) (E:TypeId) (n cap:Nat) (l:List α) (cur:Array Value):Prop where
 len:l.length=n
 le:n≤cap
 mx:cap≤maxLen
 blk:Blk w g E cur
 size:cur.size=cap*t.size
 at_:∀ j x,l[j]?=some x → t.rep w (S j) ((cur.toList.drop (j*t.size)).take t.size) x
section
variable {α:Type} {t:Ty α} {w w':World} {S S2:Nat → Nat → Prop} {S':Nat → Prop} {g n cap:Nat} {E:TypeId} {l:List α} {cur cur':Array Value}
theorem drop_get {l:List Value} {o k j:Nat} {v:Value} (h:((l.drop o).take k)[j]?=some v):l[o+j]?=some v:=by
 rw [List.getElem?_take] at h
 split at h
 ·rwa [List.getElem?_drop] at h
 ·cases h
theorem OwnB.sl (h:OwnB t w S g E n cap l cur) (hg:S' g) (hs:∀ j b,j < n → S j b → S' b):Sl t w S' (some ⟨g,0,none⟩) n cap l:=by
 refine ⟨h.len,h.le,h.mx,(fun h=>by cases h),fun i x hx=>?_⟩
 have hi:=(List.getElem?_eq_some_iff.1 hx).1
 refine ⟨_,_,rfl,hg,t.more (h.at_ i x hx) (hs i · (by rw [← h.len];exact hi)),fun j v hv=>?_⟩
 have hadd:(⟨g,0,none⟩:Addr).add (i*t.size+j)=⟨g,i*t.size+j,none⟩:=by unfold Addr.add;split <;> simp_all
 rw [hadd,h.blk.cell,← Array.getElem?_toList]
 exact drop_get hv
theorem OwnB.keep (h:OwnB t w S g E n cap l cur) (hg:w'.heap[g]?=w.heap[g]?) (hk:∀ j b,j < n → S j b → w'.heap[b]?=w.heap[b]?):OwnB t w' S g E n cap l cur :=
 ⟨h.len,h.le,h.mx,⟨hg.trans h.blk.heap⟩,h.size,fun j x hx=>t.keep (h.at_ j x hx) (hk j · (by rw [← h.len];exact (List.getElem?_eq_some_iff.1 hx).1))⟩
theorem OwnB.fut (h:OwnB t w S g E n cap l cur) (hb:Below w.heap.size w w') (hk:∀ j b,j < n → S j b → b < w.heap.size):OwnB t w' S g E n cap l cur :=
 h.keep (hb.block g h.blk.lt) fun j b hj hs=>hb.block b (hk j b hj hs)
theorem OwnB.away {m:Nat} (h:OwnB t w S g E n cap l cur) (k:w.grownBy w' (some m)) (hm:g ≠ m) (hk:∀ j b,j < n → S j b → b < w.heap.size∧b ≠ m):OwnB t w' S g E n cap l cur :=
 h.keep (k.block g h.blk.lt fun e=>hm (Option.some.inj e)) fun j b hj hs=>k.block b (hk j b hj hs).1 fun e=>(hk j b hj hs).2 (Option.some.inj e)
theorem part_other {c ps:List Value} {a s o i j:Nat} (hij:i ≠ j) (hs:o+ps.length≤s) (hl:i*s+s≤c.length):((c.take (i*s+o) ++ ps ++ c.drop (i*s+o+ps.length)).drop (j*s)).take s=(c.drop (j*s)).take s:=by
 apply List.ext_getElem?
 intro k
 rw [List.getElem?_take,List.getElem?_take]
 split
 ·rename_i hk
  rw [List.getElem?_drop,List.getElem?_drop]
  have hlen:(c.take (i*s+o)).length=i*s+o:=by rw [List.length_take];omega
  rcases Nat.lt_or_gt_of_ne hij with h|h
  ·have:(i+1)*s≤j*s:=Nat.mul_le_mul_right _ h
   rw [Nat.add_mul] at this
   rw [List.getElem?_append_right (by rw [List.length_append,hlen];omega),List.length_append,hlen,List.getElem?_drop]
   congr 1;omega
  ·have:(j+1)*s≤i*s:=Nat.mul_le_mul_right _ h
   rw [Nat.add_mul] at this
   rw [List.append_assoc,List.getElem?_append_left (by rw [hlen];omega),List.getElem?_take,if_pos (by omega)]
 ·rfl
theorem part_same {c ps:List Value} {s o i:Nat} (hs:o+ps.length≤s) (hl:i*s+s≤c.length):((c.take (i*s+o) ++ ps ++ c.drop (i*s+o+ps.length)).drop (i*s)).take s=((c.drop (i*s)).take s).take o ++ ps ++ ((c.drop (i*s)).take s).drop (o+ps.length):=by
 have h1:(c.take (i*s+o)).drop (i*s)=(c.drop (i*s)).take o:=by rw [List.drop_take];congr 1;omega
 have hlen:(c.take (i*s+o)).length=i*s+o:=by rw [List.length_take];omega
 rw [List.append_assoc,List.drop_append_of_le_length (by rw [hlen];omega),h1,List.take_take,Nat.min_eq_left (by omega)]
 have h2:((c.drop (i*s)).take o).length=o:=by rw [List.length_take,List.length_drop];omega
 rw [List.take_append,h2,List.take_of_length_le (by rw [h2];omega),List.append_assoc,List.take_append,List.take_of_length_le (l:=ps) (by omega),List.drop_take,List.drop_drop]
 rw [Nat.add_assoc (i*s) o,Nat.sub_sub]
theorem OwnB.put {i o:Nat} {ps:List Value} {x:α} (h:OwnB t w S g E n cap l cur) (hi:i < n) (k:w.grownBy w' (some g)) (b:Blk w' g E cur') (hcur:cur'.toList=cur.toList.take (i*t.size+o) ++ ps ++ cur.toList.drop (i*t.size+o+ps.length)) (ho:o+ps.length≤t.size)
  (hS:∀ j b,j < n → j ≠ i → S j b → S2 j b∧b < w.heap.size∧b ≠ g) (hx:t.rep w' (S2 i) (((cur.toList.drop (i*t.size)).take t.size).take o ++ ps ++ ((cur.toList.drop (i*t.size)).take t.size).drop (o+ps.length)) x) :
  OwnB t w' S2 g E n cap (l.set i x) cur':=by
 have hsz:(i+1)*t.size≤cap*t.size:=Nat.mul_le_mul_right _ (by have:=h.le;omega)
 rw [Nat.add_mul,Nat.one_mul,← h.size,← Array.length_toList] at hsz
 refine ⟨by rw [List.length_set];exact h.len,h.le,h.mx,b,?_,fun j y hy=>?_⟩
 ·rw [← Array.length_toList,hcur,List.length_append,List.length_append,List.length_take,List.length_drop,← h.size,← Array.length_toList];omega
 ·rw [hcur]
  by_cases e:i=j
  ·subst e
   rw [part_same ho hsz]
   rw [List.getElem?_set_self (by rw [h.len];exact hi)] at hy
   cases hy
   exact hx
  ·rw [part_other (a:=0) e ho hsz]
   rw [List.getElem?_set_ne e] at hy
   have hj:j < n:=by rw [← h.len];exact (List.getElem?_eq_some_iff.1 hy).1
   exact t.more (t.keep (h.at_ j y hy) fun b hb=>k.block b (hS j b hj (Ne.symm e) hb).2.1 fun q=>(hS j b hj (Ne.symm e) hb).2.2 (Option.some.inj q)) fun b hb=>(hS j b hj (Ne.symm e) hb).1
end
theorem Own.toB {α:Type} {t:Ty α} {w:World} {S:Nat → Prop} {base n:Nat} {E:TypeId} {v:Value} {l:List α} (h:Own t w S base E v n l) (hp:0 < t.size):(v=.slice none 0 0∧n=0∧l=[]) ∨ ∃ g cap cur,v=.slice (some ⟨g,0,none⟩) n cap∧base≤g∧OwnB t w (fun _=>S) g E n cap l cur:=by
 have hl:=h.length hp
 obtain ⟨vs,h1,h2⟩:=h.out
 rcases h1.2 with ⟨e,e2⟩|⟨g,cap,cur,rfl,hb,hg,hn,hm,hs,ht⟩
 ·exact .inl ⟨e,e2,List.eq_nil_of_length_eq_zero (by rw [hl,e2])⟩
 ·refine .inr ⟨g,cap,cur,rfl,hb,hl,hn,hm,⟨hg⟩,hs,fun j x hx=>?_⟩
  obtain ⟨xs,hr,hc⟩:=h2.at_ j x hx
  have hxs:=t.len hr
  have hj:j < n:=by rw [← hl];exact (List.getElem?_eq_some_iff.1 hx).1
  have hsz:(j+1)*t.size≤n*t.size:=Nat.mul_le_mul_right _ hj
  rw [Nat.add_mul,Nat.one_mul] at hsz
  have hle:n*t.size≤cap*t.size:=Nat.mul_le_mul_right _ hn
  have:(cur.toList.drop (j*t.size)).take t.size=xs:=by
   apply List.ext_getElem?
   intro k
   rw [List.getElem?_take]
   split
   ·rename_i hk
    have h3:=hc k (xs[k]'(by omega)) (List.getElem?_eq_getElem (by omega))
    rw [← ht,List.getElem?_take,if_pos (by omega)] at h3
    rw [List.getElem?_drop,h3,List.getElem?_eq_getElem (by omega)]
   ·rw [List.getElem?_eq_none (by omega)]
  rw [this]
  exact hr
theorem Sl.xrows {α:Type} {t:Ty α} {w:World} {S:Nat → Prop} {A:Option Addr} {n cap:Nat} {l:List α} (h:Sl t w S A n cap l) (hp:0 < t.size) :
  ∀ k,k≤n → ∃ vs,RowsOf t w S vs (l.take k)∧vs.length=k*t.size∧∀ j u,vs[j]?=some u → ∃ b off,A=some ⟨b,off,none⟩∧w.cell? ⟨b,off+j,none⟩=some u
 | 0,_=>⟨[],rfl,by simp,by simp⟩
 | k+1,hk=>by
  obtain ⟨vs,h1,h2,h3⟩:=Sl.xrows h hp k (by omega)
  obtain ⟨x,b,off,xs,hx,hA,_,_,hr,hl,hc⟩:=h.cells k (by omega) hp
  refine ⟨vs ++ xs,by rw [take_snoc l k x hx];exact h1.snoc hr,by simp [h2,hl,Nat.add_mul],fun j u hu=>?_⟩
  by_cases hj:j < vs.length
  ·rw [List.getElem?_append_left hj] at hu
   exact h3 j u hu
  ·rw [List.getElem?_append_right (by omega)] at hu
   refine ⟨b,off,hA,?_⟩
   have hcell:=hc (j - vs.length) u hu
   have e:off+(k*t.size+(j - vs.length))=off+j:=by omega
   rw [e] at hcell
   exact hcell
section
variable {P:Program} {ops:Array Oper} {rest:List Oper} {o:Oper} {a:Act} {Q:Exit → Act → World → Prop} {T E:TypeId} {z:Value} {bytes:Nat} {α:Type} {t:Ty α} {S S':Nat → Prop} {v:Value} {n m c base:Nat} {l l2:List α} {A:Option Addr}
theorem oper_xrows {K:Act → World → Prop} {W:World} (s x:Operand) (ho:o.op=.call { callee:=.builtin .append,args:=#[s,x],argTypes:=#[T,T] }) (ei:EI P T E z t.size bytes)
  (hs:a.eval s=v) (own:Own t W S base E v n l) (hx:a.eval x=.slice A m c) (sl:Sl t W S' A m c l2) (hS':∀ b,S' b → S b)
  (h63:n+m≤maxLen) (hbytes:(n+m)*bytes≤140737488355328) (hbase:base≤W.heap.size) (hin:∀ b,S b → b < W.heap.size∧some b ≠ v.ownBlock)
  (h:∀ v' w',Own t w' S base E v' (n+m) (l ++ l2) → W.grownBy w' v.ownBlock → (v'.ownBlock=v.ownBlock ∨ v'.ownBlock=some W.heap.size) → K (a.put o.dst v') w'):o.wp P a W K Q:=by
 obtain ⟨i,hi,hz0,hz1,hz2⟩:=info_parts ei.hi
 obtain ⟨vs,h1,h2⟩:=own.out
 have hl2:=sl.n_eq
 obtain ⟨us,r1,r2,r3⟩:=sl.xrows ei.hp m (Nat.le_refl _)
 rw [List.take_of_length_le (Nat.le_of_eq hl2)] at r1
 have one:∀ {α:Type} {t:Ty α} {w:World} {S:Nat → Prop} {l:List α} {vs:List Value},RowsOf t w S vs l → ∀ u ∈ vs,u.oneCell'=true:=by
  intro α t w S l
  induction l with
  | nil=>intro vs hr u hu;cases hr;cases hu
  | cons y l ih =>
   rintro vs ⟨ys,vs',rfl,hy,hr⟩ u hu
   rcases List.mem_append.1 hu with hu|hu
   ·exact t.one hy u hu
   ·exact ih hr u hu
 have more:∀ {w':World},W.grownBy w' v.ownBlock → RowsOf t w' S us l2:=fun hg=>(r1.more hS').keep fun b hb=>hg.block b (hin b hb).1 (hin b hb).2
 cases A with
 | none =>
  have hc:=sl.nil_ rfl
  have hm:=sl.cap_le
  obtain rfl:c=0:=hc
  obtain rfl:m=0:=by omega
  obtain rfl:l2=[]:=List.length_eq_zero_iff.1 hl2
  have hrun:=run_append_owned_none (P:=P) (w:=W) base T o.type E i t.size ei.ht hi v n vs h1
  unfold Oper.wp
  simp [execOp,ho,resolve,invoke,builtin,hs,hx,hrun,Result.andThen]
  refine h v W ?_ ⟨rfl,rfl,rfl,Nat.le_refl _,fun _ _ _=>rfl⟩ (.inl rfl)
  rw [List.append_nil]
  exact own
 | some ad =>
  have hnews:∀ j u,us[j]?=some u → W.cell? (ad.add j)=some u:=by
   intro j u hu
   obtain ⟨b,off,hA,hcell⟩:=r3 j u hu
   cases hA
   have hadd:(⟨b,off,none⟩:Addr).add j=⟨b,off+j,none⟩:=by unfold Addr.add;split <;> simp_all
   rw [hadd]
   exact hcell
  obtain ⟨v',w',hrun,k1,k2,_,k3⟩:=run_append_own_at (P:=P) W base T o.type E i z t.size bytes ei.ht hi hz0 hz1 hz2 ei.hz ei.hp v n vs h1 ad m c us r2 hnews (one r1) h63 hbytes hbase
  unfold Oper.wp execOp
  simp only [ho,resolve,invoke,builtin,Sem.run_bind,Sem.run_pure,Result.andThen_ok,List.map_toArray,List.map_cons,List.map_nil,hs,hx,hrun]
  exact h v' w' ⟨vs ++ us,k1,(h2.keep fun b hb=>k2.block b (hin b hb).1 (hin b hb).2).append (more k2)⟩ k2 k3
theorem wpList_xrows {W:World} (hgd:o.guard=none) (s x:Operand) (ho:o.op=.call { callee:=.builtin .append,args:=#[s,x],argTypes:=#[T,T] }) (ei:EI P T E z t.size bytes)
  (hs:a.eval s=v) (own:Own t W S base E v n l) (hx:a.eval x=.slice A m c) (sl:Sl t W S' A m c l2) (hS':∀ b,S' b → S b)
  (h63:n+m≤maxLen) (hbytes:(n+m)*bytes≤140737488355328) (hbase:base≤W.heap.size) (hin:∀ b,S b → b < W.heap.size∧some b ≠ v.ownBlock)
  (h:∀ v' w',Own t w' S base E v' (n+m) (l ++ l2) → W.grownBy w' v.ownBlock → (v'.ownBlock=v.ownBlock ∨ v'.ownBlock=some W.heap.size) → wpList P ops Q rest (a.put o.dst v') w'):wpList P ops Q (o :: rest) a W :=
 wpList_plain hgd fun K hK=>oper_xrows s x ho ei hs own hx sl hS' h63 hbytes hbase hin fun v' w' h1 h2 h3=>hK _ _ (h v' w' h1 h2 h3)
theorem Own.lit {W:World} (hb:base≤W.heap.size):Own t (W.alloc (.cells #[] E)) S base E (.slice (some ⟨W.heap.size,0,none⟩) 0 0) 0 [] :=
 ⟨[],⟨by simp,.inr ⟨_,0,#[],rfl,hb,heap_alloc_new _ _,Nat.le_refl _,by decide,by simp,by simp⟩⟩,rfl⟩
end
end Go.Proofs.YthjmghjfklkmbaaGreat
namespace Go.Proofs.YthjmghjfklkmbaaGreat
open Go.RowKit Go.ChangeShapes Go.WideShapes
set_option maxRecDepth 100000
theorem ei_i32':EI Tryz.prog 61 21 (.int .i32 0) 1 4:=⟨Tryz.underlying61,by kernel_rfl,rfl,by decide⟩
theorem clone32_any (A:Option Addr) (n c:Nat) (l:List Int) (w:World) (h:Sl (tInt .i32) w (blo w.heap.size) A n c l) (hn:n≤35184372087808) :
  Calls Tryz.prog 49 #[.slice A n c] w (RetSl (tInt .i32) w l):=by
 cases A with
 | none =>
  have hc:=h.nil_ rfl
  have hm:=h.cap_le
  obtain rfl:c=0:=hc
  obtain rfl:n=0:=by omega
  obtain rfl:l=[]:=List.length_eq_zero_iff.1 h.n_eq
  clear h
  have q0:=fun w=>Lib.run_eql_slice_nil (P:=Tryz.prog) w 61 21 none 0 0 0 0 Tryz.underlying61
  simp only [Option.isNone_none] at q0
  go_enter Tryz.func49,Tryz.ntmps49
  go_wp2_with fail
  go_ret
  exact ⟨none,0,0,rfl,Sl.nil _ _ _,Below.refl _ _⟩
 | some ad =>
  have H:=zH h
  clear h
  have q0:=fun w=>Lib.run_eql_slice_nil (P:=Tryz.prog) w 61 21 (some ad) n c 0 0 Tryz.underlying61
  simp only [Option.isNone_some] at q0
  go_enter Tryz.func49,Tryz.ntmps49
  have o0:=Own.lit0 (W:=w) (k:=.i32) (E:=21) (base:=w.heap.size) (Nat.le_refl _)
  have k0:Below w.heap.size w (w.alloc (.cells #[] 21)):=(Below.refl _ _).alloc (Nat.le_refl _) _
  have s0:=H.out.later k0 (Nat.le_refl _)
  go_wp2_with (at_builtin;refine wpList_extend rfl _ _ rfl ei_i32' rfl o0 rfl s0 (by unfold maxLen;omega) (by omega) k0.size ?_;intro v' w' o' g' a')
  go_ret
  refine o'.ret (by decide) (k0.grown g' k0.size (fun k h=>(o0.lt k h).1)) (fun b h=>h.elim)
set_option maxHeartbeats 8000000 in
theorem plain_8 (a b k s p out za zb qm qs qz rm rs rz lo hi:Int) (wl bl:List Int) (W:Option Addr) (nw cw:Nat) (B:Option Addr) (nb cb:Nat) (w:World) (hw:Sl (tInt .i8) w (blo w.heap.size) W nw cw wl) (hb:Sl (tInt .i32) w (blo w.heap.size) B nb cb bl) (mw:nw≤1048576) (mb:nb≤1048576) :
  Calls Tryz.prog 87 #[.agg (nN 8 a b k s p out za zb W nw cw B nb cb qm qs qz rm rs rz lo hi)] w (RetNode ⟨8,a,0,0,0,p,0,za,0,[],[],0,0,0,0,0,0,0,0⟩ w):=by
 have HW:=zH (Old.now hw)
 have HB:=zH (Old.now hb)
 clear hw hb
 have SC:=zH (fun w=>scaledK_any 8 w)
 rw [show scaledK 8=false from rfl] at SC
 have NM:=zH (fun w=>kname_any 8 w)
 have FR:=zH (Far.refl w)
 obtain ⟨w1,hw_w1,BN,k_w1⟩:=nB w (nN 8 a b k s p out za zb W nw cw B nb cb qm qs qz rm rs rz lo hi) 70
 replace FR:=zH (FR.out.fut k_w1)
 replace HW:=zH (HW.out.fut k_w1)
 replace HB:=zH (HB.out.fut k_w1)
 clear k_w1
 obtain ⟨w2,hw_w2,BR,k_w2⟩:=nB w1 (nN 0 0 0 0 0 0 0 0 0 none 0 0 none 0 0 0 0 0 0 0 0 0 0) 70
 replace FR:=zH (FR.out.fut k_w2)
 replace HW:=zH (HW.out.fut k_w2)
 replace HB:=zH (HB.out.fut k_w2)
 replace BN:=zH (BN.out.fut k_w2)
 clear k_w2
 have cN0:=BN.out.cell 0
 have cN1:=BN.out.cell 1
 go_enter Tryz.func87,Tryz.ntmps87
 go_wp2_with fail
 have lr0:=zH (show w.heap.size≤w1.heap.size by rw [← hw_w1];simp)
 clear hw_w1 hw_w2
 refine (NM.out _).mono ?_
 rintro e w3 ⟨rfl,hb⟩
 have tn:(nameOf 8).toList.isEmpty=false:=by rw [ByteArray.toList_eq];rfl
 clear cN0 cN1
 replace FR:=zH (FR.out.fut hb)
 replace HW:=zH (HW.out.fut hb)
 replace HB:=zH (HB.out.fut hb)
 replace BN:=zH (BN.out.fut hb)
 replace BR:=zH (BR.out.fut hb)
 clear hb
 have ln:w.heap.size < w3.heap.size:=BN.out.lt
 have lr:w1.heap.size < w3.heap.size:=BR.out.lt
 have cN0:=BN.out.cell 0
 have cN1:=BN.out.cell 1
 obtain ⟨w4,hw_w4,BM,k_w4⟩:=nB w3 (nN 0 0 0 0 0 0 0 0 0 none 0 0 none 0 0 0 0 0 0 0 0 0 0) 70
 replace FR:=zH (FR.out.fut k_w4)
 replace HW:=zH (HW.out.fut k_w4)
 replace HB:=zH (HB.out.fut k_w4)
 replace BN:=zH (BN.out.fut k_w4)
 replace BR:=zH (BR.out.fut k_w4)
 clear k_w4
 go_wp2_with (refine sB 70 (.tmp 3) (.tmp 13) w3.heap.size (nN 8 a 0 0 0 0 0 0 0 none 0 0 none 0 0 0 0 0 0 0 0 0 0) BM.out ?_;intro w5 BM5 g5;have cM0:=(BN.out.away g5 (by omega)).cell 0)
 clear hw_w4 cM0
 clear cN0 cN1
 replace FR:=zH (FR.out.away g5 (by omega))
 replace HW:=zH (HW.out.away g5 (by omega))
 replace HB:=zH (HB.out.away g5 (by omega))
 replace BN:=zH (BN.out.away g5 (by omega))
 replace BR:=zH (BR.out.away g5 (by omega))
 clear g5
 refine wp_region_held_drew (S:=fun w'=>w'.cell? ⟨w.heap.size,5,none⟩=some (.int .i64 p)∧w'.cell? ⟨w.heap.size,7,none⟩=some (.int .i8 za)∧Blk w' w.heap.size 70 (nN 8 a b k s p out za zb W nw cw B nb cb qm qs qz rm rs rz lo hi)∧Below w.heap.size w w') (by kernel_rfl) ?_ (fun hS=>?_)
 ·exact ⟨BN.out.drew.cell 5,BN.out.drew.cell 7,BN.out.drew,FR.out.out.drew⟩
 refine kH 0 rfl hS ?_
 try simp only [pX]
 refine kH 1 rfl hS ?_
 try simp only [pX]
 refine kH 2 rfl hS ?_
 try simp only [pX]
 refine kH 3 rfl hS ?_
 try simp only [pX]
 refine kH 4 rfl hS ?_
 try simp only [pX]
 refine rH 5 rfl (fun K hK=>?_)
 (rw [if_pos (by rfl)];refine oper_store_one 3 (.tmp 78) (.tmp 75) rfl w3.heap.size 5 (.int .i64 p) rfl rfl rfl rfl _ (nN 8 a 0 0 0 0 0 0 0 none 0 0 none 0 0 0 0 0 0 0 0 0 0) (nN 8 a 0 0 0 p 0 0 0 none 0 0 none 0 0 0 0 0 0 0 0 0 0) BM5.drew (by simp) (by kernel_rfl) rfl ?_;intro w6 BM6 g6;have BN6:=(hS.2.2.1).away g6 (by omega);refine hK.out _ _ ⟨BN6.cell 5,BN6.cell 7,BN6,(hS.2.2.2).grown g6 (hS.2.2.2).size (fun k h=>by have:=Option.some.inj h;omega)⟩ (fun hS=>?_))
 clear hK K
 try simp only [pX]
 refine kH 6 rfl hS ?_
 try simp only [pX]
 refine rH 7 rfl (fun K hK=>?_)
 (rw [if_pos (by rfl)];refine oper_store_one 66 (.tmp 79) (.tmp 77) rfl w3.heap.size 7 (.int .i8 za) rfl rfl rfl rfl _ (nN 8 a 0 0 0 p 0 0 0 none 0 0 none 0 0 0 0 0 0 0 0 0 0) (nN 8 a 0 0 0 p 0 za 0 none 0 0 none 0 0 0 0 0 0 0 0 0 0) BM6 (by simp) (by kernel_rfl) rfl ?_;intro w7 BM7 g7;have BN7:=(hS.2.2.1).away g7 (by omega);refine hK.out _ _ ⟨BN7.cell 5,BN7.cell 7,BN7,(hS.2.2.2).grown g7 (hS.2.2.2).size (fun k h=>by have:=Option.some.inj h;omega)⟩ (fun hS=>?_))
 clear hK K
 try simp only [pX]
 refine wpAnyH_done (by kernel_rfl) ?_ _
 replace FR:=zH (Far.mk (hS.2.2.2))
 replace BN:=zH (hS.2.2.1)
 clear hS BN6 BN7
 replace HW:=zH (HW.out.draw)
 replace HB:=zH (HB.out.draw)
 replace BR:=zH (BR.out.draw)
 replace HW:=zH (HW.out.away g6 (by omega))
 replace HB:=zH (HB.out.away g6 (by omega))
 replace BR:=zH (BR.out.away g6 (by omega))
 clear g6
 replace HW:=zH (HW.out.away g7 (by omega))
 replace HB:=zH (HB.out.away g7 (by omega))
 replace BR:=zH (BR.out.away g7 (by omega))
 clear g7
 clear BM6
 have cN0:=BN.out.cell 0
 go_wp2_with (first
  | (go_at_call 88;refine (SC.out _).mono ?_;rintro e w' ⟨rfl,rfl⟩)
  | (refine lB 70 (.tmp 3) w3.heap.size BM7 Tryz.underlying70 ?_)
  | (refine sB 70 (.tmp 2) (.tmp 95) w1.heap.size (nN 8 a 0 0 0 p 0 za 0 none 0 0 none 0 0 0 0 0 0 0 0 0 0) BR.out ?_;intro wz BZ gz))
 clear cN0
 replace FR:=zH (FR.out.away gz (by have:=lr0.out;omega))
 refine ret_cell rfl BZ rfl Tryz.underlying70 (by kernel_rfl) rfl ⟨none,0,0,none,0,0,rfl,Sl.nil _ _ _,Sl.nil _ _ _,FR.out.out⟩
set_option maxHeartbeats 8000000 in
theorem plain_9 (a b k s p out za zb qm qs qz rm rs rz lo hi:Int) (wl bl:List Int) (W:Option Addr) (nw cw:Nat) (B:Option Addr) (nb cb:Nat) (w:World) (hw:Sl (tInt .i8) w (blo w.heap.size) W nw cw wl) (hb:Sl (tInt .i32) w (blo w.heap.size) B nb cb bl) (mw:nw≤1048576) (mb:nb≤1048576) :
  Calls Tryz.prog 87 #[.agg (nN 9 a b k s p out za zb W nw cw B nb cb qm qs qz rm rs rz lo hi)] w (RetNode ⟨9,a,0,0,0,0,0,0,0,[],[],0,0,0,0,0,0,0,0⟩ w):=by
 have HW:=zH (Old.now hw)
 have HB:=zH (Old.now hb)
 clear hw hb
 have SC:=zH (fun w=>scaledK_any 9 w)
 rw [show scaledK 9=false from rfl] at SC
 have NM:=zH (fun w=>kname_any 9 w)
 have FR:=zH (Far.refl w)
 obtain ⟨w1,hw_w1,BN,k_w1⟩:=nB w (nN 9 a b k s p out za zb W nw cw B nb cb qm qs qz rm rs rz lo hi) 70
 replace FR:=zH (FR.out.fut k_w1)
 replace HW:=zH (HW.out.fut k_w1)
 replace HB:=zH (HB.out.fut k_w1)
 clear k_w1
 obtain ⟨w2,hw_w2,BR,k_w2⟩:=nB w1 (nN 0 0 0 0 0 0 0 0 0 none 0 0 none 0 0 0 0 0 0 0 0 0 0) 70
 replace FR:=zH (FR.out.fut k_w2)
 replace HW:=zH (HW.out.fut k_w2)
 replace HB:=zH (HB.out.fut k_w2)
 replace BN:=zH (BN.out.fut k_w2)
 clear k_w2
 have cN0:=BN.out.cell 0
 have cN1:=BN.out.cell 1
 go_enter Tryz.func87,Tryz.ntmps87
 go_wp2_with fail
 have lr0:=zH (show w.heap.size≤w1.heap.size by rw [← hw_w1];simp)
 clear hw_w1 hw_w2
 refine (NM.out _).mono ?_
 rintro e w3 ⟨rfl,hb⟩
 have tn:(nameOf 9).toList.isEmpty=false:=by rw [ByteArray.toList_eq];rfl
 clear cN0 cN1
 replace FR:=zH (FR.out.fut hb)
 replace HW:=zH (HW.out.fut hb)
 replace HB:=zH (HB.out.fut hb)
 replace BN:=zH (BN.out.fut hb)
 replace BR:=zH (BR.out.fut hb)
 clear hb
 have ln:w.heap.size < w3.heap.size:=BN.out.lt
 have lr:w1.heap.size < w3.heap.size:=BR.out.lt
 have cN0:=BN.out.cell 0
 have cN1:=BN.out.cell 1
 obtain ⟨w4,hw_w4,BM,k_w4⟩:=nB w3 (nN 0 0 0 0 0 0 0 0 0 none 0 0 none 0 0 0 0 0 0 0 0 0 0) 70
 replace FR:=zH (FR.out.fut k_w4)
 replace HW:=zH (HW.out.fut k_w4)
 replace HB:=zH (HB.out.fut k_w4)
 replace BN:=zH (BN.out.fut k_w4)
 replace BR:=zH (BR.out.fut k_w4)
 clear k_w4
 go_wp2_with (refine sB 70 (.tmp 3) (.tmp 13) w3.heap.size (nN 9 a 0 0 0 0 0 0 0 none 0 0 none 0 0 0 0 0 0 0 0 0 0) BM.out ?_;intro w5 BM5 g5;have cM0:=(BN.out.away g5 (by omega)).cell 0)
 clear hw_w4 cM0
 clear cN0 cN1
 replace FR:=zH (FR.out.away g5 (by omega))
 replace HW:=zH (HW.out.away g5 (by omega))
 replace HB:=zH (HB.out.away g5 (by omega))
 replace BN:=zH (BN.out.away g5 (by omega))
 replace BR:=zH (BR.out.away g5 (by omega))
 clear g5
 have cN0:=BN.out.cell 0
 go_wp2_with (first
  | (go_at_call 88;refine (SC.out _).mono ?_;rintro e w' ⟨rfl,rfl⟩)
  | (refine lB 70 (.tmp 3) w3.heap.size BM5 Tryz.underlying70 ?_)
  | (refine sB 70 (.tmp 2) (.tmp 95) w1.heap.size (nN 9 a 0 0 0 0 0 0 0 none 0 0 none 0 0 0 0 0 0 0 0 0 0) BR.out ?_;intro wz BZ gz))
 clear cN0
 replace FR:=zH (FR.out.away gz (by have:=lr0.out;omega))
 refine ret_cell rfl BZ rfl Tryz.underlying70 (by kernel_rfl) rfl ⟨none,0,0,none,0,0,rfl,Sl.nil _ _ _,Sl.nil _ _ _,FR.out.out⟩
set_option maxHeartbeats 2000000
theorem half_bit (m k:Nat):m / 2 ^ k % 2=if 2 ^ (k+1)≤2*(m % 2 ^ (k+1)) then 1 else 0:=by
 have hp:0 < 2 ^ k:=Nat.two_pow_pos k
 rw [Nat.pow_succ]
 generalize 2 ^ k=p at *
 have h1:=Nat.div_add_mod m (p*2)
 have h2:m % (p*2) < p*2:=Nat.mod_lt _ (by omega)
 have h3:m / p=2*(m / (p*2))+m % (p*2) / p:=by
  have e:m=p*(2*(m / (p*2)))+m % (p*2):=by rw [← Nat.mul_assoc];exact h1.symm
  conv=>lhs;rw [e]
  rw [Nat.mul_add_div hp]
 rw [h3]
 generalize m % (p*2)=b at *
 split
 ·have:b / p=1:=by
   rw [Nat.div_eq_iff hp];omega
  omega
 ·have:b / p=0:=Nat.div_eq_of_lt (by omega)
  omega
theorem sizeR_eq (m n:Nat):sizeR m n=m / 2 ^ n+if 1 < 2 ^ n∧2 ^ n - m % 2 ^ n≤m % 2 ^ n then 1 else 0:=by
 unfold sizeR
 have hb:m % 2 ^ n < 2 ^ n:=Nat.mod_lt _ (Nat.two_pow_pos n)
 cases n with
 | zero=>simp
 | succ k =>
  rw [if_neg (by omega),Nat.add_sub_cancel,half_bit]
  have hp:0 < 2 ^ k:=Nat.two_pow_pos k
  have e:2 ^ (k+1)=2 ^ k*2:=Nat.pow_succ 2 k
  generalize m % 2 ^ (k+1)=b at *
  congr 1
  by_cases h:2 ^ (k+1)≤2*b
  ·rw [if_pos h,if_pos (by omega)]
  ·rw [if_neg h,if_neg (by omega)]
theorem rround_any (v s:Int) (w:World) (hv:InK .i64 v):Calls Tryz.prog 97 #[.int .i64 v,.int .i64 s] w fun e w'=>e=.returned (.int .i64 (roundV v s))∧Below w.heap.size w w':=by
 rw [inK_i64] at hv
 obtain ⟨hv1,hv2⟩:=hv
 unfold roundV
 by_cases a1:s < 0
 ·rw [if_pos (.inl a1)]
  go_enter Tryz.func97,Tryz.ntmps97
  go_wp2_with fail
  go_ret
  exact ⟨rfl,Below.refl _ _⟩
 ·by_cases a2:62 < s
  ·rw [if_pos (.inr a2)]
   go_enter Tryz.func97,Tryz.ntmps97
   go_wp2_with fail
   go_ret
   exact ⟨rfl,Below.refl _ _⟩
  ·rw [if_neg (by omega)]
   obtain ⟨n,rfl⟩:∃ n:Nat,s=n:=⟨s.toNat,by omega⟩
   rw [Int.toNat_natCast]
   have hs62:(n:Int)≤62:=by omega
   have PB:=zH (fun i (h:i≤n)=>show 1≤2 ^ i∧2 ^ i≤4611686018427387904 from ⟨Nat.two_pow_pos i,Nat.le_trans (Nat.pow_le_pow_right (by decide) (show i≤62 by omega)) (by decide)⟩)
   clear a1 a2
   obtain ⟨res,hres⟩:∃ res:Int,(if v < 0 then -(sizeR v.natAbs n:Int) else (sizeR v.natAbs n:Int))=res:=⟨_,rfl⟩
   rw [hres]
   have HR:=zH hres
   clear hres
   go_enter Tryz.func97,Tryz.ntmps97
   go_wp2_with fail
   go_loopw [5,6] (fun u ii wr=>∃ i:Nat,i≤n∧ii=.int .i64 i∧u=.int .i64 ((2 ^ i:Nat):Int)∧w=wr) (fun _ ii _=>n - (intOf ii).toNat)
   case atStart=>exact ⟨0,Nat.zero_le _,rfl,rfl,rfl⟩
   case round =>
    obtain ⟨i,hi,rfl,rfl,rfl⟩:=hrel
    have hp1:=PB.out i hi
    by_cases hlt:i < n
    ·have p1:(i:Int) < (n:Int):=by omega
     have hp2:=PB.out (i+1) hlt
     have HP:=zH (Nat.pow_succ 2 i)
     rw [HP.out] at hp2
     generalize 2 ^ i=p at *
     go_wp2_with fail
     exact ⟨⟨i+1,by omega,by go_num,by rw [HP.out];go_num,by trivial⟩,by simp [intOf];omega⟩
    ·obtain rfl:i=n:=by omega
     have SE:=zH (sizeR_eq v.natAbs i)
     generalize 2 ^ i=p at *
     obtain ⟨hp3,hp4⟩:=hp1
     have pz:¬ p=0:=by omega
     by_cases b1:v < 0
     ·have hr:=HR.out
      rw [if_pos b1,SE.out] at hr
      obtain ⟨m,rfl⟩:∃ m:Nat,v=-(m:Int):=⟨v.natAbs,by omega⟩
      rw [show (-(m:Int)).natAbs=m by omega] at hr
      have d1:(-(m:Int)).tdiv (p:Int)=-((m / p:Nat):Int):=by rw [Int.neg_tdiv,Int.tdiv_eq_ediv_of_nonneg (by omega)];simp
      have d2:(-(m:Int)).tmod (p:Int)=-((m % p:Nat):Int):=by rw [Int.neg_tmod,Int.tmod_eq_emod_of_nonneg (by omega)];simp
      obtain ⟨a,ha⟩:∃ a,m / p=a:=⟨_,rfl⟩
      obtain ⟨b,hb⟩:∃ b,m % p=b:=⟨_,rfl⟩
      have ha2:a≤m:=by rw [← ha];exact Nat.div_le_self _ _
      have hb2:b < p:=by rw [← hb];exact Nat.mod_lt _ (by omega)
      rw [ha] at d1 hr
      rw [hb] at d2 hr
      have ha3:1 < p → a≤4611686018427387904:=by
       intro h
       rw [← ha]
       have h5:m / p≤m / 2:=Nat.div_le_div_left h (by decide)
       omega
      have ha3:=zH ha3
      clear ha hb SE HR
      have e1:IntKind.i64.wrap (-(a:Int))=-(a:Int):=by rw [IntKind.wrap_i64];omega
      have e2:IntKind.i64.wrap (-(b:Int))=-(b:Int):=by rw [IntKind.wrap_i64];omega
      by_cases c1:b=0
      ·subst c1
       rw [if_neg (by omega),Nat.add_zero] at hr
       subst hr
       have t1:¬ p≤0:=by omega
       have t2:¬ (p:Int)≤0:=by omega
       simp only [Int.natCast_zero,Int.neg_zero,Int.ofNat_zero] at d2 e2
       go_wp2_with fail
       go_quiet (fail)
       go_wp2_with fail
       go_ret
       exact ⟨rfl,below_drewN (Below.refl _ _) _⟩
      ·by_cases c2:p - b≤b
       ·rw [if_pos (by omega)] at hr
        subst hr
        have ha4:=ha3.out (by omega)
        have t1:(p:Int)+-(b:Int)≤(b:Int):=by omega
        have t2:(p:Int) - (b:Int)≤(b:Int):=by omega
        have t3:0 < b:=by omega
        have t4:¬ (0:Int)≤-(b:Int):=by omega
        have t5:-(b:Int) < 0:=by omega
        go_wp2_with fail
        go_quiet (fail)
        go_wp2_with fail
        go_ret
        exact ⟨by show Ending.returned (.int .i64 _)=_;go_num,below_drewN (Below.refl _ _) _⟩
       ·rw [if_neg (by omega),Nat.add_zero] at hr
        subst hr
        have t1:¬ (p:Int)+-(b:Int)≤(b:Int):=by omega
        have t2:¬ (p:Int) - (b:Int)≤(b:Int):=by omega
        have t3:0 < b:=by omega
        have t4:¬ (0:Int)≤-(b:Int):=by omega
        have t5:-(b:Int) < 0:=by omega
        go_wp2_with fail
        go_quiet (fail)
        go_wp2_with fail
        go_ret
        exact ⟨rfl,below_drewN (Below.refl _ _) _⟩
     ·have hr:=HR.out
      rw [if_neg b1,SE.out] at hr
      obtain ⟨m,rfl⟩:∃ m:Nat,v=(m:Int):=⟨v.natAbs,by omega⟩
      rw [show ((m:Int)).natAbs=m by omega] at hr
      have d1:(m:Int).tdiv (p:Int)=((m / p:Nat):Int):=by rw [Int.tdiv_eq_ediv_of_nonneg (by omega)];simp
      have d2:(m:Int).tmod (p:Int)=((m % p:Nat):Int):=by rw [Int.tmod_eq_emod_of_nonneg (by omega)];simp
      obtain ⟨a,ha⟩:∃ a,m / p=a:=⟨_,rfl⟩
      obtain ⟨b,hb⟩:∃ b,m % p=b:=⟨_,rfl⟩
      have ha2:a≤m:=by rw [← ha];exact Nat.div_le_self _ _
      have hb2:b < p:=by rw [← hb];exact Nat.mod_lt _ (by omega)
      rw [ha] at d1 hr
      rw [hb] at d2 hr
      have ha3:1 < p → a≤4611686018427387904:=by
       intro h
       rw [← ha]
       have h5:m / p≤m / 2:=Nat.div_le_div_left h (by decide)
       omega
      clear ha hb SE HR
      have e1:IntKind.i64.wrap (a:Int)=(a:Int):=by rw [IntKind.wrap_i64];omega
      have e2:IntKind.i64.wrap (b:Int)=(b:Int):=by rw [IntKind.wrap_i64];omega
      have t3:¬ (b:Int) < 0:=by omega
      by_cases c2:p - b≤b
      ·rw [if_pos (by omega)] at hr
       subst hr
       have t1:(p:Int) - (b:Int)≤(b:Int):=by omega
       have t2:1 < p:=by omega
       have ha4:=ha3 t2
       clear ha3
       go_wp2_with fail
       go_quiet (fail)
       go_wp2_with fail
       go_ret
       exact ⟨by show Ending.returned (.int .i64 _)=_;go_num,below_drewN (Below.refl _ _) _⟩
      ·rw [if_neg (by omega),Nat.add_zero] at hr
       subst hr
       have t1:¬ (p:Int) - (b:Int)≤(b:Int):=by omega
       clear ha3
       go_wp2_with fail
       go_quiet (fail)
       go_wp2_with fail
       go_ret
       exact ⟨rfl,below_drewN (Below.refl _ _) _⟩
end Go.Proofs.YthjmghjfklkmbaaGreat
namespace Go.Proofs.YthjmghjfklkmbaaGreat
open Go.RowKit Go.ChangeShapes Go.WideShapes Fx
set_option maxRecDepth 100000
set_option maxHeartbeats 2000000
theorem roundV_le (v s:Int) (b:Nat) (h:v.natAbs≤b):(roundV v s).natAbs≤b:=by
 unfold roundV
 have:=sizeR_le v.natAbs s.toNat
 split
 ·simp
 ·split <;> omega
theorem prod32 {a b:Int} (ha:InK .i32 a) (hb:InK .i32 b):(a*b).natAbs≤4611686018427387904:=by
 rw [inK_i32] at ha hb
 exact Nat.le_trans (natAbs_mul_le (m:=2147483648) (n:=2147483648) (by omega) (by omega)) (by decide)
theorem scale_any (acc m s:Int) (w:World) (ha:InK .i32 acc) (hm:InK .i32 m) :
  Calls Tryz.prog 126 #[.int .i32 acc,.int .i32 m,.int .i64 s] w fun e w'=>e=.returned (.int .i64 (roundV (acc*m) s))∧Below w.heap.size w w':=by
 have hp:=prod32 ha hm
 rw [inK_i32] at ha hm
 obtain ⟨a1,a2⟩:=ha
 obtain ⟨m1,m2⟩:=hm
 obtain ⟨p,hpp⟩:∃ p,acc*m=p:=⟨_,rfl⟩
 rw [hpp] at hp ⊢
 have e1:IntKind.i64.wrap (acc*m)=p:=by rw [hpp];exact IntWalk.i64_in _ (by omega)
 have RA:=zH (fun w=>round_any p s w (by rw [inK_i64];omega))
 have e3:p≤4611686018427387904:=by omega
 have e4:-4611686018427387904≤p:=by omega
 clear hp
 go_enter Tryz.func126,Tryz.ntmps126
 go_wp2_with (go_at_call 127;refine (RA.out _).mono ?_;rintro e w2 ⟨rfl,hb⟩)
 go_ret
 exact ⟨rfl,hb⟩
def heldQ (acc m s z lo hi:Int):Int:=if quantOk m s=true then w8 (heldV (roundV (acc*m) s+z) lo hi) else 0
theorem heldQ_in (acc m s z lo hi:Int):InK .i8 (heldQ acc m s z lo hi):=by
 unfold heldQ
 split
 ·exact w8_in _
 ·decide
theorem fixHeld_any (acc m s z lo hi:Int) (w:World) (ha:InK .i32 acc) (hm:InK .i32 m) (hz:InK .i8 z) (hlo:InK .i8 lo) (hhi:InK .i8 hi) :
  Calls Tryz.prog 122 #[.int .i32 acc,.agg #[.int .i32 m,.int .i64 s,.int .i8 z],.int .i8 lo,.int .i8 hi] w fun e w'=>e=.returned (.int .i8 (heldQ acc m s z lo hi))∧Below w.heap.size w w':=by
 have hp:=roundV_le (acc*m) s _ (prod32 ha hm)
 have QR:=zH (fun w=>fixRight_any m s z w)
 have SC:=zH (fun w=>scale_any acc m s w ha hm)
 have HH:=zH (show heldQ acc m s z lo hi=if quantOk m s=true then w8 (heldV (roundV (acc*m) s+z) lo hi) else 0 from rfl)
 obtain ⟨r,hr⟩:∃ r,roundV (acc*m) s=r:=⟨_,rfl⟩
 rw [hr] at hp SC HH
 rw [inK_i8] at hz
 obtain ⟨z1,z2⟩:=hz
 have e1:IntKind.i64.wrap (r+z)=r+z:=IntWalk.i64_in _ (by omega)
 have e2:IntKind.i64.wrap z=z:=IntWalk.i64_in _ (by omega)
 have CL:=zH (fun w=>clamp_any (r+z) lo hi w hlo hhi)
 obtain ⟨q,hq⟩:∃ q,quantOk m s=q:=⟨_,rfl⟩
 rw [hq] at QR HH
 have FR:=zH (Far.refl w)
 obtain ⟨w1,hw_w1,BQ,k_w1⟩:=nB w #[.int .i32 m,.int .i64 s,.int .i8 z] 68
 replace FR:=zH (FR.out.fut k_w1)
 clear k_w1
 have d0:=BQ.out.cell 0
 have d1:=BQ.out.cell 1
 have d2:=BQ.out.cell 2
 clear hr hq ha hm hlo hhi
 cases q with
 | false =>
  rw [if_neg (by decide)] at HH
  rw [HH.out]
  go_enter Tryz.func122,Tryz.ntmps122
  go_wp2_with (go_at_call 89;refine (QR.out _).mono ?_;rintro e w2 ⟨rfl,hb⟩)
  go_ret
  exact ⟨rfl,(FR.out.fut hb).out⟩
 | true =>
  rw [if_pos rfl] at HH
  rw [HH.out]
  go_enter Tryz.func122,Tryz.ntmps122
  go_wp2_with (go_at_call 89;refine (QR.out _).mono ?_;rintro e w2 ⟨rfl,hb⟩)
  replace FR:=zH (FR.out.fut hb)
  replace BQ:=zH (BQ.out.fut hb)
  clear d0 d1 d2 hw_w1 hb
  have d0:∀ q:Ext w2,q.1.cell? ⟨w.heap.size,0,none⟩=some (.int .i32 m):=fun q=>(BQ.out.ext q).cell 0
  have d1:∀ q:Ext w2,q.1.cell? ⟨w.heap.size,1,none⟩=some (.int .i64 s):=fun q=>(BQ.out.ext q).cell 1
  have d2:∀ q:Ext w2,q.1.cell? ⟨w.heap.size,2,none⟩=some (.int .i8 z):=fun q=>(BQ.out.ext q).cell 2
  have E1:=zH (fun q:Ext w2=>calls_ext q (SC.out q.1))
  have E2:=zH (fun q:Ext w2=>calls_ext q ((CL.out q.1).mono (fun e w' h=>⟨h.1,by rw [← h.2];exact Below.refl _ _⟩)))
  refine wp_region_ext w2 (by kernel_rfl) (by kernel_rfl) (Below.refl _ _) ?_
  repeat (go_big_quiet_step (first|(exact E1.out _)|(exact E2.out _)))
  refine wpQuiet_nil ?_
  rintro _ ⟨⟨w3,hB⟩,rfl⟩
  go_wp2_with fail
  go_ret
  exact ⟨rfl,(FR.out.fut hB).out⟩
theorem rfixHeld_any (acc m s z lo hi:Int) (w:World) (ha:InK .i32 acc) (hm:InK .i32 m) (hz:InK .i8 z) (hlo:InK .i8 lo) (hhi:InK .i8 hi) :
  Calls Tryz.prog 96 #[.int .i32 acc,.agg #[.int .i32 m,.int .i64 s,.int .i8 z],.int .i8 lo,.int .i8 hi] w fun e w'=>e=.returned (.int .i8 (heldQ acc m s z lo hi))∧Below w.heap.size w w':=by
 have hp:=roundV_le (acc*m) s _ (prod32 ha hm)
 have hp0:=prod32 ha hm
 have QR:=zH (fun w=>rfixRight_any m s z w)
 obtain ⟨pm,hpm⟩:∃ p,acc*m=p:=⟨_,rfl⟩
 rw [hpm] at hp hp0
 have RA:=zH (fun w=>rround_any pm s w (by rw [inK_i64];omega))
 have HH:=zH (show heldQ acc m s z lo hi=if quantOk m s=true then w8 (heldV (roundV (acc*m) s+z) lo hi) else 0 from rfl)
 rw [hpm] at HH
 obtain ⟨r,hr⟩:∃ r,roundV pm s=r:=⟨_,rfl⟩
 rw [hr] at hp RA HH
 rw [inK_i8] at hz hlo hhi
 rw [inK_i32] at ha hm
 obtain ⟨z1,z2⟩:=hz
 obtain ⟨l1,l2⟩:=hlo
 obtain ⟨h1,h2⟩:=hhi
 obtain ⟨a1,a2⟩:=ha
 obtain ⟨m1,m2⟩:=hm
 have e1:IntKind.i64.wrap (r+z)=r+z:=IntWalk.i64_in _ (by omega)
 have e2:IntKind.i64.wrap z=z:=IntWalk.i64_in _ (by omega)
 have e3:IntKind.i64.wrap (acc*m)=pm:=by rw [hpm];exact IntWalk.i64_in _ (by omega)
 have e4:IntKind.i64.wrap acc=acc:=IntWalk.i64_in _ (by omega)
 have e5:IntKind.i64.wrap m=m:=IntWalk.i64_in _ (by omega)
 have CL:=zH (fun w=>rheld_any (r+z) lo hi w)
 have W8:=zH (show w8 (heldV (r+z) lo hi)=IntKind.i8.wrap (heldV (r+z) lo hi) from rfl)
 rw [W8.out] at HH
 obtain ⟨q,hq⟩:∃ q,quantOk m s=q:=⟨_,rfl⟩
 rw [hq] at QR HH
 have FR:=zH (Far.refl w)
 obtain ⟨w1,hw_w1,BQ,k_w1⟩:=nB w #[.int .i32 m,.int .i64 s,.int .i8 z] 68
 replace FR:=zH (FR.out.fut k_w1)
 clear k_w1
 have d0:=BQ.out.cell 0
 have d1:=BQ.out.cell 1
 have d2:=BQ.out.cell 2
 clear hr hq hpm
 cases q with
 | false =>
  rw [if_neg (by decide)] at HH
  rw [HH.out]
  go_enter Tryz.func96,Tryz.ntmps96
  go_wp2_with (go_at_call 60;refine (QR.out _).mono ?_;rintro e w2 ⟨rfl,hb⟩)
  go_ret
  exact ⟨rfl,(FR.out.fut hb).out⟩
 | true =>
  rw [if_pos rfl] at HH
  rw [HH.out]
  go_enter Tryz.func96,Tryz.ntmps96
  go_wp2_with (go_at_call 60;refine (QR.out _).mono ?_;rintro e w2 ⟨rfl,hb⟩)
  replace FR:=zH (FR.out.fut hb)
  replace BQ:=zH (BQ.out.fut hb)
  clear d0 d1 d2 hw_w1 hb
  have d0:∀ q:Ext w2,q.1.cell? ⟨w.heap.size,0,none⟩=some (.int .i32 m):=fun q=>(BQ.out.ext q).cell 0
  have d1:∀ q:Ext w2,q.1.cell? ⟨w.heap.size,1,none⟩=some (.int .i64 s):=fun q=>(BQ.out.ext q).cell 1
  have d2:∀ q:Ext w2,q.1.cell? ⟨w.heap.size,2,none⟩=some (.int .i8 z):=fun q=>(BQ.out.ext q).cell 2
  have E1:=zH (fun q:Ext w2=>calls_ext q (RA.out q.1))
  refine wp_region_ext w2 (by kernel_rfl) (by kernel_rfl) (Below.refl _ _) ?_
  repeat (go_big_quiet_step ((exact E1.out _)))
  refine wpQuiet_nil ?_
  rintro _ ⟨⟨w3,hB⟩,rfl⟩
  go_wp2_with (go_at_call 98;refine (CL.out _).mono ?_;rintro e w4 ⟨rfl,rfl⟩)
  go_ret
  exact ⟨rfl,(FR.out.fut hB).out⟩
end Go.Proofs.YthjmghjfklkmbaaGreat
namespace Go.Proofs.YthjmghjfklkmbaaGreat
open Go.RowKit Go.ChangeShapes Go.WideShapes
set_option maxRecDepth 100000
set_option maxHeartbeats 4000000
def tRg (k:IntKind):Ty (Int × Int):=tPair (tInt k) (tInt k)
theorem ei_range:EI Tryz.prog 171 188 (.agg #[.int .i64 0,.int .i64 0]) 2 16:=⟨Tryz.underlying171,by kernel_rfl,rfl,by decide⟩
theorem rg_rep {k:IntKind} {w:World} {S:Nat → Prop} {a b:Int} (ha:InK k a) (hb:InK k b):(tRg k).rep w S [.int k a,.int k b] (a,b):=⟨_,_,rfl,⟨rfl,ha⟩,rfl,hb⟩
theorem Sl.rg_at {k:IntKind} {w:World} {S:Nat → Prop} {A:Option Addr} {n cap:Nat} {l:List (Int × Int)} (h:Sl (tRg k) w S A n cap l) (i:Nat) (hi:i < n) :
  ∃ p b off,l[i]?=some p∧A=some ⟨b,off,none⟩∧S b∧b < w.heap.size∧InK k p.1∧InK k p.2∧w.rangeAt b (off+i*2) [.int k p.1,.int k p.2]:=by
 obtain ⟨x,b,off,xs,hx,hA,hS,hb,hr,hl,hc⟩:=h.cells i hi (by show 0 < 2;decide)
 obtain ⟨_,_,rfl,⟨rfl,h1⟩,rfl,h2⟩:=hr
 refine ⟨x,b,off,hx,hA,hS,hb,h1,h2,fun j v hv=>?_⟩
 have:=hc j v hv
 rw [Nat.add_assoc];exact this
theorem holds_at {l:List (Int × Int)} {k:Nat} {p:Int × Int} (hx:l[k]?=some p) (h:¬ (-2147483648≤p.1∧p.2≤2147483647)):holdsR l=false:=by
 rw [Bool.eq_false_iff]
 intro hh
 unfold holdsR at hh
 rw [List.all_eq_true] at hh
 have:=hh p (List.mem_of_getElem? hx)
 rw [Bool.and_eq_true,decide_eq_true_eq,decide_eq_true_eq] at this
 exact h this
theorem spanHolds_any (A:Option Addr) (n cap:Nat) (l:List (Int × Int)) (w:World) (hs:Sl (tRg .i64) w (blo w.heap.size) A n cap l) :
  Calls Tryz.prog 103 #[.slice A n cap] w fun e w'=>e=.returned (.bool (holdsR l))∧Below w.heap.size w w':=by
 have hmax:n≤9223372036854775807:=Nat.le_trans hs.cap_le hs.max_le
 have HN:=zH hs.n_eq
 have HS:=zH (Old.now hs)
 have FR:=zH (Far.refl w)
 clear hs
 go_enter Tryz.func103,Tryz.ntmps103
 go_wp2_with fail
 go_loopw [7] (fun ii wr=>∃ k:Nat,k≤n∧ii=.int .i64 k∧holdsR (l.take k)=true∧Below w.heap.size w wr) (fun ii _=>n - (intOf ii).toNat)
 case atStart=>exact ⟨0,Nat.zero_le _,rfl,rfl,FR.out.out⟩
 case round =>
  obtain ⟨k,hk,rfl,hh,hg⟩:=hrel
  replace HS:=zH (HS.out.fut hg)
  replace FR:=zH (FR.out.fut hg)
  have HH:=zH hh
  clear hg hh
  by_cases hlt:k < n
  ·have p1:(k:Int) < (n:Int):=by omega
   obtain ⟨⟨x,y⟩,bz,oz,hx,rfl,-,-,-,-,rg⟩:=HS.out.out.rg_at k hlt
   have RG:=zH rg
   have TS:=zH (take_snoc l k _ hx)
   have HX:=zH hx
   simp only at RG
   clear rg hx
   obtain ⟨w3,hw_w3,BX,k_w3⟩:=nB wr #[.int .i64 x,.int .i64 y] 188
   replace FR:=zH (FR.out.fut k_w3)
   clear k_w3
   have c0:=BX.out.cell 0
   have c1:=BX.out.cell 1
   by_cases h1:x < -2147483648
   ·have t1:decide (x < -2147483648)=true:=by simpa using h1
    go_wp2_with (refine wpList_load_mid rfl 188 (.tmp 9) rfl bz (oz+k*2) rfl _ _ RG.out Tryz.underlying188 rfl (by kernel_rfl) ?_)
    go_ret
    exact ⟨by rw [holds_at HX.out (by simp only;omega)];rfl,FR.out.out⟩
   have t1:decide (x < -2147483648)=false:=by simpa using h1
   by_cases h2:2147483647 < y
   ·have t2:decide (2147483647 < y)=true:=by simpa using h2
    go_wp2_with (refine wpList_load_mid rfl 188 (.tmp 9) rfl bz (oz+k*2) rfl _ _ RG.out Tryz.underlying188 rfl (by kernel_rfl) ?_)
    go_ret
    exact ⟨by rw [holds_at HX.out (by simp only;omega)];rfl,FR.out.out⟩
   have t2:decide (2147483647 < y)=false:=by simpa using h2
   have NH:=zH (show holdsR (l.take (k+1))=true by rw [TS.out,holdsR_snoc,HH.out];simp only [Bool.true_and,Bool.and_eq_true,decide_eq_true_eq];omega)
   clear h1 h2
   go_wp2_with (refine wpList_load_mid rfl 188 (.tmp 9) rfl bz (oz+k*2) rfl _ _ RG.out Tryz.underlying188 rfl (by kernel_rfl) ?_)
   exact ⟨⟨k+1,by omega,by go_num,NH.out,FR.out.out⟩,by simp [intOf];omega⟩
  ·obtain rfl:k=n:=by omega
   have e:=HN.out
   rw [List.take_of_length_le (by omega)] at HH
   go_wp2_with fail
   go_ret
   exact ⟨by rw [HH.out];rfl,FR.out.out⟩
theorem spanBoth_any (A:Option Addr) (n cap:Nat) (l:List (Int × Int)) (w:World) (hs:Sl (tRg .i64) w (blo w.heap.size) A n cap l) :
  Calls Tryz.prog 118 #[.slice A n cap] w fun e w'=>e=.returned (.agg #[.int .i64 (bothR l).1,.int .i64 (bothR l).2])∧Below w.heap.size w w':=by
 have hmax:n≤9223372036854775807:=Nat.le_trans hs.cap_le hs.max_le
 have HN:=zH hs.n_eq
 have HS:=zH (Old.now hs)
 have FR:=zH (Far.refl w)
 obtain ⟨w1,hw_w1,BR,k_w1⟩:=nB w #[.int .i64 0,.int .i64 0] 188
 replace FR:=zH (FR.out.fut k_w1)
 clear k_w1
 have l1:w.heap.size < w1.heap.size:=by rw [← hw_w1];simp
 by_cases h0:n=0
 ·subst h0
  obtain rfl:l=[]:=List.eq_nil_of_length_eq_zero HN.out
  clear hs
  go_enter Tryz.func118,Tryz.ntmps118
  go_wp2_with (refine sB 188 (.tmp 2) (.tmp 9) w.heap.size #[.int .i64 0,.int .i64 0] BR.out ?_;intro w3 B3 g3)
  refine ret_cell rfl B3 rfl Tryz.underlying188 (by kernel_rfl) rfl ?_
  exact ⟨rfl,(FR.out.away g3 (by omega)).out⟩
 have t0:((n:Int) == 0)=false:=by simp;omega
 have nh:=Nat.pos_of_ne_zero h0
 obtain ⟨⟨x,y⟩,bz,oz,hx,hA,-,-,ix,iy,rg⟩:=hs.rg_at 0 nh
 have B0:=zH (show bothR l=bothF l (x,y) by unfold bothR;rw [List.getD_eq_getElem?_getD,hx];rfl)
 have RG:=zH (rangeAt_later rg (show Below w.heap.size w w1 by rw [← hw_w1];exact (Below.refl _ _).alloc (Nat.le_refl _) _))
 simp only [Nat.zero_mul,Nat.add_zero] at RG
 subst hA
 clear rg ix iy hx hs
 obtain ⟨w2,hw_w2,BO,k_w2⟩:=nB w1 #[.int .i64 x,.int .i64 y] 188
 replace FR:=zH (FR.out.fut k_w2)
 replace BR:=zH (BR.out.fut k_w2)
 clear k_w2
 have l2:w1.heap.size < w2.heap.size:=by rw [← hw_w2];simp
 go_enter Tryz.func118,Tryz.ntmps118
 go_wp2_with (refine wpList_load_mid rfl 188 (.tmp 11) rfl bz oz rfl _ _ RG.out Tryz.underlying188 rfl (by kernel_rfl) ?_)
 clear hw_w1 hw_w2 RG
 have GR:=zH (grS w2 (some w1.heap.size))
 go_loopw [15] (fun ii wr=>∃ k:Nat,k≤n∧ii=.int .i64 k∧w2.grownBy wr (some w1.heap.size)∧Blk wr w1.heap.size 188 #[.int .i64 (bothF (l.take k) (x,y)).1,.int .i64 (bothF (l.take k) (x,y)).2]) (fun ii _=>n - (intOf ii).toNat)
 case atStart=>exact ⟨0,Nat.zero_le _,rfl,GR.out,BO.out⟩
 case round =>
  obtain ⟨k,hk,rfl,hg,hB⟩:=hrel
  have G:=zH hg
  have zr:=hg.size
  replace HS:=zH ((HS.out.fut FR.out.out).away hg (by omega))
  replace FR:=zH (FR.out.away hg (by omega))
  replace BR:=zH (BR.out.away hg (by omega))
  have BX:=zH hB
  clear hg hB BO GR
  by_cases hlt:k < n
  ·have p1:(k:Int) < (n:Int):=by omega
   obtain ⟨⟨u,v⟩,bz',oz',hu,hA,-,-,-,-,rg⟩:=HS.out.out.rg_at k hlt
   obtain ⟨rfl,rfl⟩:bz=bz'∧oz=oz':=by simpa using hA
   have RG:=zH rg
   have TS:=zH (take_snoc l k _ hu)
   have BS:=zH (bothF_snoc (l.take k) (x,y) (u,v))
   obtain ⟨⟨p,q⟩,hpq⟩:∃ r,bothF (l.take k) (x,y)=r:=⟨_,rfl⟩
   rw [hpq] at BX BS
   simp only at BX BS RG
   obtain ⟨p',hp'⟩:∃ r,min p u=r:=⟨_,rfl⟩
   obtain ⟨q',hq'⟩:∃ r,max q v=r:=⟨_,rfl⟩
   have mn:(if u < p then u else p)=p':=by rw [mnI,hp']
   have mx:(if q < v then v else q)=q':=by rw [mxI,hq']
   rw [hp',hq'] at BS
   clear rg hu hA hpq hp' hq'
   have RR:=zH (Far.refl wr)
   obtain ⟨w3,hw_w3,BE,k_w3⟩:=nB wr #[.int .i64 u,.int .i64 v] 188
   replace BX:=zH (BX.out.fut k_w3)
   replace FR:=zH (FR.out.fut k_w3)
   replace BR:=zH (BR.out.fut k_w3)
   replace RR:=zH (RR.out.fut k_w3)
   clear k_w3
   have c0:=BX.out.cell 0
   have c1:=BX.out.cell 1
   have e0:=BE.out.cell 0
   have e1:=BE.out.cell 1
   go_wp2_with (first|(refine wpList_load_mid rfl 188 (.tmp 17) rfl bz (oz+k*2) rfl _ _ RG.out Tryz.underlying188 rfl (by kernel_rfl) ?_)|(refine sB 188 (.tmp 3) (.tmp 29) w1.heap.size #[.int .i64 p',.int .i64 q'] BX.out ?_;intro w4 B4 g4))
   exact ⟨⟨k+1,by omega,by go_num,grT G.out (grT (grO RR.out.out) g4),by rw [TS.out,BS.out];exact B4⟩,by simp [intOf];omega⟩
  ·obtain rfl:k=n:=by omega
   have e:=HN.out
   rw [List.take_of_length_le (by omega)] at BX
   go_wp2_with (first|(refine lB 188 (.tmp 3) w1.heap.size BX.out Tryz.underlying188 ?_)|(refine sB 188 (.tmp 2) (.tmp 31) w.heap.size #[.int .i64 (bothF l (x,y)).1,.int .i64 (bothF l (x,y)).2] BR.out ?_;intro w3 B3 g3))
   refine ret_cell rfl B3 rfl Tryz.underlying188 (by kernel_rfl) rfl ?_
   exact ⟨by rw [B0.out],(FR.out.away g3 (by omega)).out⟩
theorem allR_range {w bias:List Int} {lo hi z:Int} {gaps:Bool} (h0:¬ bias.length=0) (h1:w.length % bias.length=0):allR w bias lo hi z gaps=(List.range bias.length).map fun o=>rowR (bias.getD o 0) lo hi z gaps (rowL w (w.length / bias.length) o):=by
 unfold allR;rw [if_neg (by rintro (h|h);exact h0 h;exact h h1)]
theorem allR_bad {w bias:List Int} {lo hi z:Int} {gaps:Bool} (h:bias.length=0 ∨ ¬ w.length % bias.length=0):allR w bias lo hi z gaps=[]:=by unfold allR;rw [if_pos h]
theorem rowL_in {w:List Int} {each o:Nat} (h:∀ i,InK .i8 (w.getD i 0)) (i:Nat):InK .i8 ((rowL w each o).getD i 0):=by
 unfold rowL
 rw [List.getD_eq_getElem?_getD,List.getElem?_take]
 split
 ·rw [List.getElem?_drop]
  have:=h (o*each+i)
  rwa [List.getD_eq_getElem?_getD] at this
 ·decide
theorem spanAll_any (d:Node) (W:Option Addr) (nw cw:Nat) (B:Option Addr) (nb cb:Nat) (lo hi:Int) (w:World) (hw:Sl (tInt .i8) w (blo w.heap.size) W nw cw d.w) (hb:Sl (tInt .i32) w (blo w.heap.size) B nb cb d.bias) (hz:InK .i8 d.za)
  (hlo:InK .i8 lo) (hhi:InK .i8 hi) (mw:nw≤16384) (mb:nb≤16384) (hw1:1≤nw) :
  Calls Tryz.prog 102 #[.agg (nN d.kind d.a d.b d.k d.s d.p d.out d.za d.zb W nw cw B nb cb d.qm d.qs d.qz d.rm d.rs d.rz d.lo d.hi),.int .i8 lo,.int .i8 hi] w (RetSl (tRg .i64) w (allR d.w d.bias lo hi d.za (decide (0 < d.p)))):=by
 have HB:=zH (Old.now hb)
 have HW:=zH (Old.now hw)
 have NB:=hb.n_eq
 have NW:=hw.n_eq
 have FR:=zH (Far.refl w)
 obtain ⟨w1,hw_w1,BN,k_w1⟩:=nB w (nN d.kind d.a d.b d.k d.s d.p d.out d.za d.zb W nw cw B nb cb d.qm d.qs d.qz d.rm d.rs d.rz d.lo d.hi) 70
 replace FR:=zH (FR.out.fut k_w1)
 clear k_w1
 have l1:w.heap.size < w1.heap.size:=by rw [← hw_w1];simp
 have n5:=BN.out.cell 5
 have n7:=BN.out.cell 7
 have n9:=BN.out.cell 9
 have n10:=BN.out.cell 10
 simp only [gX] at n5 n7 n9 n10
 by_cases h0:nb=0
 ·subst h0
  rw [allR_bad (.inl NB)]
  clear hw hb NB NW
  go_enter Tryz.func102,Tryz.ntmps102
  go_wp2_with fail
  go_ret
  exact ⟨none,0,0,rfl,Sl.nil _ _ _,FR.out.out⟩
 have z0:(nb:Int) ≠ 0:=by omega
 have t0:((nb:Int) == 0)=false:=by simpa using h0
 obtain ⟨rm,hrm⟩:∃ x,nw % nb=x:=⟨_,rfl⟩
 have r1:(nw:Int).tmod (nb:Int)=(rm:Int):=by rw [← hrm,Int.tmod_eq_emod_of_nonneg (by omega)];simp
 have hrmb:rm < nb:=by rw [← hrm];exact Nat.mod_lt _ (by omega)
 have r2:IntKind.i64.wrap (rm:Int)=(rm:Int):=IntWalk.i64_in _ (by omega)
 by_cases h1:rm=0
 rotate_left
 ·have t1:((rm:Int) != 0)=true:=by simpa using h1
  rw [allR_bad (.inr (by rw [NB,NW,hrm];exact h1))]
  clear hw hb NB NW
  go_enter Tryz.func102,Tryz.ntmps102
  go_wp2_with fail
  go_ret
  exact ⟨none,0,0,rfl,Sl.nil _ _ _,FR.out.out⟩
 subst h1
 obtain ⟨E,hE⟩:∃ x,nw / nb=x:=⟨_,rfl⟩
 have q1:(nw:Int).tdiv (nb:Int)=(E:Int):=by rw [← hE];exact Int.tdiv_eq_ediv_of_nonneg (by omega)
 have q2:(nw:Int) / (nb:Int)=(E:Int):=by rw [← hE];simp
 have hE1:1≤E:=by rw [← hE];exact Nat.div_pos (Nat.le_of_dvd hw1 (Nat.dvd_of_mod_eq_zero hrm)) (by omega)
 have hEn:E≤nw:=by rw [← hE];exact Nat.div_le_self _ _
 have q3:IntKind.i64.wrap (E:Int)=(E:Int):=IntWalk.i64_in _ (by omega)
 have AL:=zH (allR_range (lo:=lo) (hi:=hi) (z:=d.za) (gaps:=decide (0 < d.p)) (show ¬ d.bias.length=0 by rw [NB];exact h0) (show d.w.length % d.bias.length=0 by rw [NW,NB];exact hrm))
 rw [NB,NW,hE] at AL
 have RL:=zH (fun o (ho:o < nb)=>rowL_len (w:=d.w) (nb:=nb) (o:=o) (by rw [NW];exact hrm) ho)
 rw [NW,hE] at RL
 obtain ⟨bw,ow,hA,-,-,-,-⟩:=hw.int_at 0 (by omega)
 subst hA
 have HZ:=zH hz
 have HLO:=zH hlo
 have HHI:=zH hhi
 have cwm:nw≤cw:=hw.cap_le
 have cwm2:cw≤9223372036854775807:=hw.max_le
 clear hw hb NB NW hrm hE hz hlo hhi
 go_enter Tryz.func102,Tryz.ntmps102
 go_wp2_with fail
 clear hw_w1
 go_loopw [8,35] (fun u ii wr=>∃ k:Nat,k≤nb∧ii=.int .i64 k∧Own (tRg .i64) wr (fun _=>False) w1.heap.size 188 u k ((List.range k).map fun o=>rowR (d.bias.getD o 0) lo hi d.za (decide (0 < d.p)) (rowL d.w E o))∧Below w1.heap.size w1 wr) (fun _ ii _=>nb - (intOf ii).toNat)
 case atStart=>exact ⟨0,Nat.zero_le _,rfl,Own.nil _ _ _ _ _,Below.refl _ _⟩
 case round =>
  obtain ⟨k,hk,rfl,hown,hg⟩:=hrel
  replace HB:=zH ((HB.out.fut FR.out.out).fut hg)
  replace HW:=zH ((HW.out.fut FR.out.out).fut hg)
  replace FR:=zH (FR.out.fut hg)
  replace BN:=zH (BN.out.fut hg)
  have ON:=zH hown
  have GG:=zH hg
  clear hg hown n5 n7 n9 n10
  have n5:=BN.out.cell 5
  have n7:=BN.out.cell 7
  have n9:=BN.out.cell 9
  simp only [gX] at n5 n7 n9
  by_cases hlt:k < nb
  ·have p1:(k:Int) < (nb:Int):=by omega
   obtain ⟨bz,oz,rfl,-,-,cx,ix⟩:=HB.out.out.int_at k hlt
   obtain ⟨v1,v2⟩:=RL.out k hlt
   obtain ⟨p,hp⟩:∃ p:Nat,k*E=p:=⟨_,rfl⟩
   have hpi:(k:Int)*(E:Int)=(p:Int):=by rw [← hp];simp
   have hpj:((k:Int)+1)*(E:Int)=(p:Int)+(E:Int):=by rw [Int.add_mul,hpi];simp
   rw [hp] at v2
   have f1:IntKind.i64.wrap ((k:Int)*(E:Int))=(p:Int):=by rw [hpi];exact IntWalk.i64_in _ (by omega)
   have f2:IntKind.i64.wrap ((k:Int)+1)=(k:Int)+1:=IntWalk.i64_in _ (by omega)
   obtain ⟨p2,hp2⟩:∃ x:Nat,p+E=x:=⟨_,rfl⟩
   have f3:IntKind.i64.wrap (((k:Int)+1)*(E:Int))=(p2:Int):=by rw [hpj,← hp2];exact (IntWalk.i64_in _ (by omega)).trans (by simp)
   have s1:p≤p2:=by omega
   have s2:p2≤cw:=by omega
   have s3:p2 - p=E:=by omega
   have s4:¬ cw=p:=by omega
   have ia:InK .i32 (d.bias.getD k 0):=ix
   obtain ⟨x,hx⟩:∃ x,d.bias.getD k 0=x:=⟨_,rfl⟩
   rw [hx] at cx ia
   obtain ⟨g,hg⟩:∃ g,decide (0 < d.p)=g:=⟨_,rfl⟩
   have RW:=zH (fun w' (hs':Sl (tInt .i8) w' (blo w'.heap.size) (some ⟨bw,ow,none⟩) nw cw d.w)=>spanRow_any (some ⟨bw,ow+p,none⟩) E (cw - p) (rowL d.w E k) x lo hi d.za g w' (by unfold rowL;rw [hp];exact hs'.sub p E p (cw - p) (by simp [tInt]) (by omega) (by omega) (by omega)) (by omega) ia HLO.out HHI.out HZ.out)
   have RN:=zH (rowR_all (b:=x) (gaps:=g) (l:=rowL d.w E k) HLO.out HHI.out HZ.out (rowL_in (fun i=>HW.out.out.allK i)) ia)
   have LM:=zH (show (List.range (k+1)).map (fun o=>rowR (d.bias.getD o 0) lo hi d.za (decide (0 < d.p)) (rowL d.w E o))=(List.range k).map (fun o=>rowR (d.bias.getD o 0) lo hi d.za (decide (0 < d.p)) (rowL d.w E o)) ++ [rowR x lo hi d.za g (rowL d.w E k)] by rw [List.range_succ,List.map_append,List.map_singleton,hx,hg])
   obtain ⟨⟨y1,y2⟩,hy⟩:∃ r,rowR x lo hi d.za g (rowL d.w E k)=r:=⟨_,rfl⟩
   rw [hy] at RW RN LM
   simp only at RW RN LM
   have IY:=zH (show InK .i64 y1∧InK .i64 y2 by have:=RN.out;rw [v1] at this;rw [inK_i64,inK_i64];omega)
   clear ix hx hy hpi hpj v1 RN hp2 v2
   go_upto_region 8 with fail
   (try simp only [Act.put])
   have OW:=zH (ON.out.heap (w':=wr.drew) rfl)
   refine wp_region_held_drew (S:=fun w'=>w'.cell? ⟨w.heap.size,5,none⟩=some (.int .i64 d.p)∧w'.cell? ⟨w.heap.size,7,none⟩=some (.int .i8 d.za)∧w'.cell? ⟨w.heap.size,9,none⟩=some (.slice (some ⟨bw,ow,none⟩) nw cw)∧Below w1.heap.size w1 w') (by kernel_rfl) ?_ (fun hS=>?_)
   ·exact ⟨n5,n7,n9,GG.out.drew⟩
   refine kH 0 rfl hS ?_
   try simp only [pX]
   refine kH 1 rfl hS ?_
   try simp only [pX]
   refine kH 2 rfl hS ?_
   try simp only [pX]
   refine kH 3 rfl hS ?_
   try simp only [pX]
   refine kH 4 rfl hS ?_
   try simp only [pX]
   refine kH 5 rfl hS ?_
   try simp only [pX]
   refine kH 6 rfl hS ?_
   try simp only [pX]
   refine kH 7 rfl hS ?_
   try simp only [pX]
   refine kH 8 rfl hS ?_
   try simp only [pX]
   refine kH 9 rfl hS ?_
   try simp only [pX]
   refine kH 10 rfl hS ?_
   try simp only [pX]
   refine kH 11 rfl hS ?_
   try simp only [pX]
   refine kH 12 rfl hS ?_
   try simp only [pX]
   refine kH 13 rfl hS ?_
   try simp only [pX]
   refine kH 14 rfl hS ?_
   try simp only [pX]
   refine kH 15 rfl hS ?_
   try simp only [pX]
   refine kH 16 rfl hS ?_
   try simp only [pX]
   refine kH 17 rfl hS ?_
   try simp only [pX]
   refine wpAnyH_take (i:=18) (v:=.bool g) rfl (by as_aux_lemma=>kernel_rfl) (by as_aux_lemma=>kernel_rfl) (by as_aux_lemma=>kernel_rfl) (fun _ _ _ h=>h) (Or.inl ⟨by rfl,?_⟩) hS ?_
   ·intro w hSw;(try dsimp only at hSw);go_simp;first|done|rw [hg]
   try simp only [pX]
   refine rH 19 rfl (fun K hK=>?_)
   go_simp
   refine (RW.out _ ((HW.out.draw).all)).mono ?_;rintro e wa ⟨rfl,hb⟩;replace OW:=zH (OW.out.below hb (Nat.le_refl _) (fun _ h=>h.elim))
   refine hK.out _ _ ?_ (fun hS=>?_)
   ·exact ⟨(by first|exact cell_later hb hS.1|exact Blk.later hS.1 hb),(by first|exact cell_later hb hS.2.1|exact Blk.later hS.2.1 hb),(by first|exact cell_later hb hS.2.2.1|exact Blk.later hS.2.2.1 hb),below_later hb hS.2.2.2⟩
   clear hK K
   try simp only [pX]
   refine rH 20 rfl (fun K hK=>?_)
   go_simp
   have hb:Below wa.heap.size wa (wa.alloc (.cells #[.int .i64 y1,.int .i64 y2] 188)):=(Below.refl _ _).alloc (Nat.le_refl _) _;have hSa:=hS
   refine hK.out _ _ ?_ (fun hS=>?_)
   ·exact ⟨(by first|exact cell_later hb hS.1|exact Blk.later hS.1 hb),(by first|exact cell_later hb hS.2.1|exact Blk.later hS.2.1 hb),(by first|exact cell_later hb hS.2.2.1|exact Blk.later hS.2.2.1 hb),below_later hb hS.2.2.2⟩
   clear hK K
   try simp only [pX]
   refine rH 21 rfl (fun K hK=>?_)
   (rw [if_pos (by rfl)];refine oper_push (t:=tRg .i64) (.tmp 40) (.tmp 60) rfl ei_range rfl OW.out 1 rfl (y1,y2) (rg_rep IY.out.1 IY.out.2) (by unfold maxLen;omega) (by omega) hSa.2.2.2.size (fun b hb=>hb.elim) ?_;intro v1 w2 own1 g1 at1;have ne:some w.heap.size ≠ u8.ownBlock:=fun e=>absurd (OW.out.lt _ e.symm).1 (Nat.not_le.2 l1);refine hK.out _ _ ⟨cell_grown g1 hSa.1 ne,cell_grown g1 hSa.2.1 ne,cell_grown g1 hSa.2.2.1 ne,hSa.2.2.2.grown g1 hSa.2.2.2.size (fun k h=>(OW.out.lt k h).1)⟩ (fun hS=>?_))
   clear hK K
   try simp only [pX]
   refine kH 22 rfl hS ?_
   try simp only [pX]
   refine wpAnyH_done (by kernel_rfl) ?_ _
   have HG:=zH hS.2.2.2
   clear hS hSa hb n5 n7 n9 g1
   go_wp2_with fail
   exact ⟨⟨k+1,by omega,by go_num,by rw [LM.out];exact own1,HG.out⟩,by simp [intOf];omega⟩
  ·obtain rfl:k=nb:=by omega
   obtain ⟨A2,c2,rfl,sl⟩:=ON.out.sl (S':=bin w.heap.size wr.heap.size) (by show 0 < 2;decide) (fun b h1 h2=>⟨by omega,h2⟩) (fun _ h=>h.elim)
   have SL:=zH sl
   clear sl ON
   go_wp2_with fail
   go_ret
   rw [AL.out]
   exact ⟨A2,_,c2,rfl,SL.out,FR.out.out⟩
end Go.Proofs.YthjmghjfklkmbaaGreat
namespace Go.Proofs.YthjmghjfklkmbaaGreat
open Go.RowKit Go.ChangeShapes Go.WideShapes Fx
set_option maxRecDepth 100000
set_option maxHeartbeats 4000000
def oneV (d:Node) (x:Int):Int:=heldQ (x - d.za) d.qm d.qs d.qz d.lo d.hi
theorem oneV_in (d:Node) (x:Int):InK .i8 (oneV d x):=heldQ_in _ _ _ _ _ _
theorem actOne_any (x:Int) (d:Node) (W:Option Addr) (nw cw:Nat) (B:Option Addr) (nb cb:Nat) (w:World) (hx:InK .i8 x) (hd:NodeIn d) :
  Calls Tryz.prog 113 #[.int .i8 x,.agg (nN d.kind d.a d.b d.k d.s d.p d.out d.za d.zb W nw cw B nb cb d.qm d.qs d.qz d.rm d.rs d.rz d.lo d.hi)] w fun e w'=>e=.returned (.int .i8 (oneV d x))∧Below w.heap.size w w':=by
 have hz:=hd.za
 have HX:=hx
 rw [inK_i8] at hx hz
 obtain ⟨x1,x2⟩:=hx
 obtain ⟨z1,z2⟩:=hz
 have FR:=zH (Far.refl w)
 obtain ⟨w1,hw_w1,BN,k_w1⟩:=nB w (nN d.kind d.a d.b d.k d.s d.p d.out d.za d.zb W nw cw B nb cb d.qm d.qs d.qz d.rm d.rs d.rz d.lo d.hi) 70
 replace FR:=zH (FR.out.fut k_w1)
 clear k_w1
 have HE:=zH (fun w=>fixHeld_any (x - d.za) d.qm d.qs d.qz d.lo d.hi w (by rw [inK_i32];omega) hd.qm hd.qz hd.lo hd.hi)
 have d7:=BN.out.cell 7
 have d17:=BN.out.cell 17
 have d18:=BN.out.cell 18
 unfold oneV
 clear hd HX
 go_enter Tryz.func113,Tryz.ntmps113
 go_wp2_with (first|(refine wpList_load_blk rfl 68 (.tmp 11) rfl w.heap.size 11 rfl _ (nN d.kind d.a d.b d.k d.s d.p d.out d.za d.zb W nw cw B nb cb d.qm d.qs d.qz d.rm d.rs d.rz d.lo d.hi) #[.int .i32 d.qm,.int .i64 d.qs,.int .i8 d.qz] _ BN.out Tryz.underlying68 rfl (by kernel_rfl) rfl ?_)|(go_at_call 122;refine (HE.out _).mono ?_;rintro e w2 ⟨rfl,hb⟩))
 go_ret
 exact ⟨rfl,(FR.out.fut hb).out⟩
theorem ractOne_any (x:Int) (d:Node) (W:Option Addr) (nw cw:Nat) (B:Option Addr) (nb cb:Nat) (w:World) (hx:InK .i8 x) (hd:NodeIn d) :
  Calls Tryz.prog 75 #[.int .i8 x,.agg (nN d.kind d.a d.b d.k d.s d.p d.out d.za d.zb W nw cw B nb cb d.qm d.qs d.qz d.rm d.rs d.rz d.lo d.hi)] w fun e w'=>e=.returned (.int .i8 (oneV d x))∧Below w.heap.size w w':=by
 have hz:=hd.za
 have HX:=hx
 rw [inK_i8] at hx hz
 obtain ⟨x1,x2⟩:=hx
 obtain ⟨z1,z2⟩:=hz
 have FR:=zH (Far.refl w)
 obtain ⟨w1,hw_w1,BN,k_w1⟩:=nB w (nN d.kind d.a d.b d.k d.s d.p d.out d.za d.zb W nw cw B nb cb d.qm d.qs d.qz d.rm d.rs d.rz d.lo d.hi) 70
 replace FR:=zH (FR.out.fut k_w1)
 clear k_w1
 have HE:=zH (fun w=>rfixHeld_any (x - d.za) d.qm d.qs d.qz d.lo d.hi w (by rw [inK_i32];omega) hd.qm hd.qz hd.lo hd.hi)
 have d7:=BN.out.cell 7
 have d17:=BN.out.cell 17
 have d18:=BN.out.cell 18
 unfold oneV
 clear hd HX
 go_enter Tryz.func75,Tryz.ntmps75
 go_wp2_with (first|(refine wpList_load_blk rfl 68 (.tmp 11) rfl w.heap.size 11 rfl _ (nN d.kind d.a d.b d.k d.s d.p d.out d.za d.zb W nw cw B nb cb d.qm d.qs d.qz d.rm d.rs d.rz d.lo d.hi) #[.int .i32 d.qm,.int .i64 d.qs,.int .i8 d.qz] _ BN.out Tryz.underlying68 rfl (by kernel_rfl) rfl ?_)|(go_at_call 96;refine (HE.out _).mono ?_;rintro e w2 ⟨rfl,hb⟩))
 go_ret
 exact ⟨rfl,(FR.out.fut hb).out⟩
end Go.Proofs.YthjmghjfklkmbaaGreat
namespace Go.Proofs.YthjmghjfklkmbaaGreat
open Go.RowKit Go.ChangeShapes Go.WideShapes
set_option maxRecDepth 100000
theorem rkshape_any (h v c h2 v2 c2:Int) (d:Node) (W:Option Addr) (nw cw:Nat) (B:Option Addr) (nb cb:Nat) (w:World) (i0:InK .i64 h) (i1:InK .i64 v) (i2:InK .i64 c) (hout:InK .i64 d.out) (hp:InK .i64 d.p) (hnw:nw=d.w.length) (hnb:nb=d.bias.length) (mw:nw≤1048576) (mb:nb≤1048576) (hk:1≤d.kind∧d.kind≤9) :
  Calls Tryz.prog 41 #[.agg (nN d.kind d.a d.b d.k d.s d.p d.out d.za d.zb W nw cw B nb cb d.qm d.qs d.qz d.rm d.rs d.rz d.lo d.hi),.agg (sN h v c),.agg (sN h2 v2 c2)] w fun e w'=>e=retS (shapeV h v c h2 v2 c2 d)∧Below w.heap.size w w':=by
 rcases (show d.kind=1 ∨ d.kind=2 ∨ d.kind=3 ∨ d.kind=4 ∨ d.kind=5 ∨ d.kind=6 ∨ d.kind=7 ∨ d.kind=8 ∨ d.kind=9 by omega) with e|e|e|e|e|e|e|e|e
 ·exact rkshape_any_1 h v c h2 v2 c2 d W nw cw B nb cb w i0 i1 i2 hout hp hnw hnb mw mb e
 ·exact rkshape_any_2 h v c h2 v2 c2 d W nw cw B nb cb w i0 i1 i2 hout hp hnw hnb mw mb e
 ·exact rkshape_any_3 h v c h2 v2 c2 d W nw cw B nb cb w i0 i1 i2 hout hp hnw hnb mw mb e
 ·exact rkshape_any_4 h v c h2 v2 c2 d W nw cw B nb cb w i0 i1 i2 hout hp hnw hnb mw mb e
 ·exact rkshape_any_5 h v c h2 v2 c2 d W nw cw B nb cb w i0 i1 i2 hout hp hnw hnb mw mb e
 ·exact rkshape_any_6 h v c h2 v2 c2 d W nw cw B nb cb w i0 i1 i2 hout hp hnw hnb mw mb e
 ·exact rkshape_any_7 h v c h2 v2 c2 d W nw cw B nb cb w i0 i1 i2 hout hp hnw hnb mw mb e
 ·exact rkshape_any_8 h v c h2 v2 c2 d W nw cw B nb cb w i0 i1 i2 hout hp hnw hnb mw mb e
 ·exact rkshape_any_9 h v c h2 v2 c2 d W nw cw B nb cb w i0 i1 i2 hout hp hnw hnb mw mb e
end Go.Proofs.YthjmghjfklkmbaaGreat
