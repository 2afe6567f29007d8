/-
  A row of the call's own, each element of which lies where its place says; parts of elements are stored.
  slices.Clone of []int32.
  What a node's kind tells (layer 25): kinds.Plain, some of the kinds.
  A product is shifted and rounded (layer 2): the document's Round.
  Numbers scaled and held (layer 2): fix.Scale, fix.Held, the document's Held.
  Between which numbers lies what a scale makes of a range (layer 24): After; the document's Row and After.
  Between which numbers values lie (layer 32): guard.ends, over, upside, summed.
  A number scaled and held (layer 21): act.One, the document's One.
  The shape that a node makes (layers 18, 25): the document's Shape, put together.
-/
import Derived.Test.YtppcjcigekoipaaGreatJ07
import Derived.Test.YtppcjcigekoipaaGreatJ14
import Derived.Test.YtppcjcigekoipaaGreatJ10
import Derived.Test.YtppcjcigekoipaaGreatJ15
import Derived.Test.YtppcjcigekoipaaGreatJ16
set_option linter.unusedVariables false
set_option linter.unusedSimpArgs false
namespace Go.Proofs.YtppcjcigekoipaaGreat
open Go Go.RowKit Go.ChangeShapes Go.WideShapes
theorem below_grown {a b:World} {r:Option Nat} (h:Below a.heap.size a b):a.grownBy b r:=⟨h.os,h.tape,h.output,h.size,fun i hi _=>h.block i hi⟩
theorem grown_past {a b c:World} {r q:Option Nat} (h:a.grownBy b r) (k:b.grownBy c q) (hm:∀ m,q=some m → a.heap.size≤m):a.grownBy c r :=
 ⟨k.os.trans h.os,k.tape.trans h.tape,k.output.trans h.output,Nat.le_trans h.size k.size,fun i hi hne=>(k.block i (Nat.lt_of_lt_of_le hi h.size) (fun e=>by have:=hm i e.symm;omega)).trans (h.block i hi hne)⟩
theorem grown_new {a b c:World} {r:Option Nat} {m:Nat} (h:a.grownBy b r) (k:b.grownBy c (some m)) (hm:a.heap.size≤m):a.grownBy c r:=grown_past h k fun i hi=>by have:=Option.some.inj hi;omega
theorem Own.more {α:Type} {t:Ty α} {w:World} {S S':Nat → Prop} {base n:Nat} {E:TypeId} {v:Value} {l:List α} (h:Own t w S base E v n l) (hs:∀ b,S b → S' b):Own t w S' base E v n l:=by
 obtain ⟨vs,h1,h2⟩:=h.out
 exact ⟨vs,h1,h2.more hs⟩
theorem range_one {w:World} {g o:Nat} {v:Value} (h:w.cell? ⟨g,o,none⟩=some v):w.rangeAt g o [v]:=fun j x hx=>by
 cases j with
 | zero=>cases hx;exact h
 | succ j=>cases hx
structure OwnB {α:Type} (t:Ty α) (w:World) (S:Nat → Nat → Prop) (g:Nat) (E:TypeId) (n cap:Nat) (l:List α) (cur:Array Value):Prop where
 len:l.length=n
 le:n≤cap
 mx:cap≤maxLen
 blk:Blk w g E cur
 size:cur.size=cap*t.size
 at_:∀ j x,l[j]?=some x → t.rep w (S j) ((cur.toList.drop (j*t.size)).take t.size) x
section
variable {α:Type} {t:Ty α} {w w':World} {S S2:Nat → Nat → Prop} {S':Nat → Prop} {g n cap:Nat} {E:TypeId} {l:List α} {cur cur':Array Value}
theorem drop_get {l:List Value} {o k j:Nat} {v:Value} (h:((l.drop o).take k)[j]?=some v):l[o+j]?=some v:=by
 rw [List.getElem?_take] at h
 split at h
 ·rwa [List.getElem?_drop] at h
 ·cases h
theorem OwnB.sl (h:OwnB t w S g E n cap l cur) (hg:S' g) (hs:∀ j b,j < n → S j b → S' b):Sl t w S' (some ⟨g,0,none⟩) n cap l:=by
 refine ⟨h.len,h.le,h.mx,(fun h=>by cases h),fun i x hx=>?_⟩
 have hi:=(List.getElem?_eq_some_iff.1 hx).1
 refine ⟨_,_,rfl,hg,t.more (h.at_ i x hx) (hs i · (by rw [← h.len];exact hi)),fun j v hv=>?_⟩
 have hadd:(⟨g,0,none⟩:Addr).add (i*t.size+j)=⟨g,i*t.size+j,none⟩:=by unfold Addr.add;split <;> simp_all
 rw [hadd,h.blk.cell,← Array.getElem?_toList]
 exact drop_get hv
theorem OwnB.keep (h:OwnB t w S g E n cap l cur) (hg:w'.heap[g]?=w.heap[g]?) (hk:∀ j b,j < n → S j b → w'.heap[b]?=w.heap[b]?):OwnB t w' S g E n cap l cur :=
 ⟨h.len,h.le,h.mx,⟨hg.trans h.blk.heap⟩,h.size,fun j x hx=>t.keep (h.at_ j x hx) (hk j · (by rw [← h.len];exact (List.getElem?_eq_some_iff.1 hx).1))⟩
theorem OwnB.fut (h:OwnB t w S g E n cap l cur) (hb:Below w.heap.size w w') (hk:∀ j b,j < n → S j b → b < w.heap.size):OwnB t w' S g E n cap l cur :=
 h.keep (hb.block g h.blk.lt) fun j b hj hs=>hb.block b (hk j b hj hs)
theorem OwnB.away {m:Nat} (h:OwnB t w S g E n cap l cur) (k:w.grownBy w' (some m)) (hm:g ≠ m) (hk:∀ j b,j < n → S j b → b < w.heap.size∧b ≠ m):OwnB t w' S g E n cap l cur :=
 h.keep (k.block g h.blk.lt fun e=>hm (Option.some.inj e)) fun j b hj hs=>k.block b (hk j b hj hs).1 fun e=>(hk j b hj hs).2 (Option.some.inj e)
theorem part_other {c ps:List Value} {a s o i j:Nat} (hij:i ≠ j) (hs:o+ps.length≤s) (hl:i*s+s≤c.length):((c.take (i*s+o) ++ ps ++ c.drop (i*s+o+ps.length)).drop (j*s)).take s=(c.drop (j*s)).take s:=by
 apply List.ext_getElem?
 intro k
 rw [List.getElem?_take,List.getElem?_take]
 split
 ·rename_i hk
  rw [List.getElem?_drop,List.getElem?_drop]
  have hlen:(c.take (i*s+o)).length=i*s+o:=by rw [List.length_take];omega
  rcases Nat.lt_or_gt_of_ne hij with h|h
  ·have:(i+1)*s≤j*s:=Nat.mul_le_mul_right _ h
   rw [Nat.add_mul] at this
   rw [List.getElem?_append_right (by rw [List.length_append,hlen];omega),List.length_append,hlen,List.getElem?_drop]
   congr 1;omega
  ·have:(j+1)*s≤i*s:=Nat.mul_le_mul_right _ h
   rw [Nat.add_mul] at this
   rw [List.append_assoc,List.getElem?_append_left (by rw [hlen];omega),List.getElem?_take,if_pos (by omega)]
 ·rfl
theorem part_same {c ps:List Value} {s o i:Nat} (hs:o+ps.length≤s) (hl:i*s+s≤c.length):((c.take (i*s+o) ++ ps ++ c.drop (i*s+o+ps.length)).drop (i*s)).take s=((c.drop (i*s)).take s).take o ++ ps ++ ((c.drop (i*s)).take s).drop (o+ps.length):=by
 have h1:(c.take (i*s+o)).drop (i*s)=(c.drop (i*s)).take o:=by rw [List.drop_take];congr 1;omega
 have hlen:(c.take (i*s+o)).length=i*s+o:=by rw [List.length_take];omega
 rw [List.append_assoc,List.drop_append_of_le_length (by rw [hlen];omega),h1,List.take_take,Nat.min_eq_left (by omega)]
 have h2:((c.drop (i*s)).take o).length=o:=by rw [List.length_take,List.length_drop];omega
 rw [List.take_append,h2,List.take_of_length_le (by rw [h2];omega),List.append_assoc,List.take_append,List.take_of_length_le (l:=ps) (by omega),List.drop_take,List.drop_drop]
 rw [Nat.add_assoc (i*s) o,Nat.sub_sub]
theorem OwnB.put {i o:Nat} {ps:List Value} {x:α} (h:OwnB t w S g E n cap l cur) (hi:i < n) (k:w.grownBy w' (some g)) (b:Blk w' g E cur') (hcur:cur'.toList=cur.toList.take (i*t.size+o) ++ ps ++ cur.toList.drop (i*t.size+o+ps.length)) (ho:o+ps.length≤t.size)
  (hS:∀ j b,j < n → j ≠ i → S j b → S2 j b∧b < w.heap.size∧b ≠ g) (hx:t.rep w' (S2 i) (((cur.toList.drop (i*t.size)).take t.size).take o ++ ps ++ ((cur.toList.drop (i*t.size)).take t.size).drop (o+ps.length)) x) :
  OwnB t w' S2 g E n cap (l.set i x) cur':=by
 have hsz:(i+1)*t.size≤cap*t.size:=Nat.mul_le_mul_right _ (by have:=h.le;omega)
 rw [Nat.add_mul,Nat.one_mul,← h.size,← Array.length_toList] at hsz
 refine ⟨by rw [List.length_set];exact h.len,h.le,h.mx,b,?_,fun j y hy=>?_⟩
 ·rw [← Array.length_toList,hcur,List.length_append,List.length_append,List.length_take,List.length_drop,← h.size,← Array.length_toList];omega
 ·rw [hcur]
  by_cases e:i=j
  ·subst e
   rw [part_same ho hsz]
   rw [List.getElem?_set_self (by rw [h.len];exact hi)] at hy
   cases hy
   exact hx
  ·rw [part_other (a:=0) e ho hsz]
   rw [List.getElem?_set_ne e] at hy
   have hj:j < n:=by rw [← h.len];exact (List.getElem?_eq_some_iff.1 hy).1
   exact t.more (t.keep (h.at_ j y hy) fun b hb=>k.block b (hS j b hj (Ne.symm e) hb).2.1 fun q=>(hS j b hj (Ne.symm e) hb).2.2 (Option.some.inj q)) fun b hb=>(hS j b hj (Ne.symm e) hb).1
end
theorem Own.toB {α:Type} {t:Ty α} {w:World} {S:Nat → Prop} {base n:Nat} {E:TypeId} {v:Value} {l:List α} (h:Own t w S base E v n l) (hp:0 < t.size):(v=.slice none 0 0∧n=0∧l=[]) ∨ ∃ g cap cur,v=.slice (some ⟨g,0,none⟩) n cap∧base≤g∧OwnB t w (fun _=>S) g E n cap l cur:=by
 have hl:=h.length hp
 obtain ⟨vs,h1,h2⟩:=h.out
 rcases h1.2 with ⟨e,e2⟩|⟨g,cap,cur,rfl,hb,hg,hn,hm,hs,ht⟩
 ·exact .inl ⟨e,e2,List.eq_nil_of_length_eq_zero (by rw [hl,e2])⟩
 ·refine .inr ⟨g,cap,cur,rfl,hb,hl,hn,hm,⟨hg⟩,hs,fun j x hx=>?_⟩
  obtain ⟨xs,hr,hc⟩:=h2.at_ j x hx
  have hxs:=t.len hr
  have hj:j < n:=by rw [← hl];exact (List.getElem?_eq_some_iff.1 hx).1
  have hsz:(j+1)*t.size≤n*t.size:=Nat.mul_le_mul_right _ hj
  rw [Nat.add_mul,Nat.one_mul] at hsz
  have hle:n*t.size≤cap*t.size:=Nat.mul_le_mul_right _ hn
  have:(cur.toList.drop (j*t.size)).take t.size=xs:=by
   apply List.ext_getElem?
   intro k
   rw [List.getElem?_take]
   split
   ·rename_i hk
    have h3:=hc k (xs[k]'(by omega)) (List.getElem?_eq_getElem (by omega))
    rw [← ht,List.getElem?_take,if_pos (by omega)] at h3
    rw [List.getElem?_drop,h3,List.getElem?_eq_getElem (by omega)]
   ·rw [List.getElem?_eq_none (by omega)]
  rw [this]
  exact hr
theorem Sl.xrows {α:Type} {t:Ty α} {w:World} {S:Nat → Prop} {A:Option Addr} {n cap:Nat} {l:List α} (h:Sl t w S A n cap l) (hp:0 < t.size) :
  ∀ k,k≤n → ∃ vs,RowsOf t w S vs (l.take k)∧vs.length=k*t.size∧∀ j u,vs[j]?=some u → ∃ b off,A=some ⟨b,off,none⟩∧w.cell? ⟨b,off+j,none⟩=some u
 | 0,_=>⟨[],rfl,by simp,by simp⟩
 | k+1,hk=>by
  obtain ⟨vs,h1,h2,h3⟩:=Sl.xrows h hp k (by omega)
  obtain ⟨x,b,off,xs,hx,hA,_,_,hr,hl,hc⟩:=h.cells k (by omega) hp
  refine ⟨vs ++ xs,by rw [take_snoc l k x hx];exact h1.snoc hr,by simp [h2,hl,Nat.add_mul],fun j u hu=>?_⟩
  by_cases hj:j < vs.length
  ·rw [List.getElem?_append_left hj] at hu
   exact h3 j u hu
  ·rw [List.getElem?_append_right (by omega)] at hu
   refine ⟨b,off,hA,?_⟩
   have hcell:=hc (j - vs.length) u hu
   have e:off+(k*t.size+(j - vs.length))=off+j:=by omega
   rw [e] at hcell
   exact hcell
section
variable {P:Program} {ops:Array Oper} {rest:List Oper} {o:Oper} {a:Act} {Q:Exit → Act → World → Prop} {T E:TypeId} {z:Value} {bytes:Nat} {α:Type} {t:Ty α} {S S':Nat → Prop} {v:Value} {n m c base:Nat} {l l2:List α} {A:Option Addr}
theorem oper_xrows {K:Act → World → Prop} {W:World} (s x:Operand) (ho:o.op=.call { callee:=.builtin .append,args:=#[s,x],argTypes:=#[T,T] }) (ei:EI P T E z t.size bytes)
  (hs:a.eval s=v) (own:Own t W S base E v n l) (hx:a.eval x=.slice A m c) (sl:Sl t W S' A m c l2) (hS':∀ b,S' b → S b)
  (h63:n+m≤maxLen) (hbytes:(n+m)*bytes≤140737488355328) (hbase:base≤W.heap.size) (hin:∀ b,S b → b < W.heap.size∧some b ≠ v.ownBlock)
  (h:∀ v' w',Own t w' S base E v' (n+m) (l ++ l2) → W.grownBy w' v.ownBlock → (v'.ownBlock=v.ownBlock ∨ v'.ownBlock=some W.heap.size) → K (a.put o.dst v') w'):o.wp P a W K Q:=by
 obtain ⟨i,hi,hz0,hz1,hz2⟩:=info_parts ei.hi
 obtain ⟨vs,h1,h2⟩:=own.out
 have hl2:=sl.n_eq
 obtain ⟨us,r1,r2,r3⟩:=sl.xrows ei.hp m (Nat.le_refl _)
 rw [List.take_of_length_le (Nat.le_of_eq hl2)] at r1
 have one:∀ {α:Type} {t:Ty α} {w:World} {S:Nat → Prop} {l:List α} {vs:List Value},RowsOf t w S vs l → ∀ u ∈ vs,u.oneCell'=true:=by
  intro α t w S l
  induction l with
  | nil=>intro vs hr u hu;cases hr;cases hu
  | cons y l ih =>
   rintro vs ⟨ys,vs',rfl,hy,hr⟩ u hu
   rcases List.mem_append.1 hu with hu|hu
   ·exact t.one hy u hu
   ·exact ih hr u hu
 have more:∀ {w':World},W.grownBy w' v.ownBlock → RowsOf t w' S us l2:=fun hg=>(r1.more hS').keep fun b hb=>hg.block b (hin b hb).1 (hin b hb).2
 cases A with
 | none =>
  have hc:=sl.nil_ rfl
  have hm:=sl.cap_le
  obtain rfl:c=0:=hc
  obtain rfl:m=0:=by omega
  obtain rfl:l2=[]:=List.length_eq_zero_iff.1 hl2
  have hrun:=run_append_owned_none (P:=P) (w:=W) base T o.type E i t.size ei.ht hi v n vs h1
  unfold Oper.wp
  simp [execOp,ho,resolve,invoke,builtin,hs,hx,hrun,Result.andThen]
  refine h v W ?_ ⟨rfl,rfl,rfl,Nat.le_refl _,fun _ _ _=>rfl⟩ (.inl rfl)
  rw [List.append_nil]
  exact own
 | some ad =>
  have hnews:∀ j u,us[j]?=some u → W.cell? (ad.add j)=some u:=by
   intro j u hu
   obtain ⟨b,off,hA,hcell⟩:=r3 j u hu
   cases hA
   have hadd:(⟨b,off,none⟩:Addr).add j=⟨b,off+j,none⟩:=by unfold Addr.add;split <;> simp_all
   rw [hadd]
   exact hcell
  obtain ⟨v',w',hrun,k1,k2,_,k3⟩:=run_append_own_at (P:=P) W base T o.type E i z t.size bytes ei.ht hi hz0 hz1 hz2 ei.hz ei.hp v n vs h1 ad m c us r2 hnews (one r1) h63 hbytes hbase
  unfold Oper.wp execOp
  simp only [ho,resolve,invoke,builtin,Sem.run_bind,Sem.run_pure,Result.andThen_ok,List.map_toArray,List.map_cons,List.map_nil,hs,hx,hrun]
  exact h v' w' ⟨vs ++ us,k1,(h2.keep fun b hb=>k2.block b (hin b hb).1 (hin b hb).2).append (more k2)⟩ k2 k3
theorem wpList_xrows {W:World} (hgd:o.guard=none) (s x:Operand) (ho:o.op=.call { callee:=.builtin .append,args:=#[s,x],argTypes:=#[T,T] }) (ei:EI P T E z t.size bytes)
  (hs:a.eval s=v) (own:Own t W S base E v n l) (hx:a.eval x=.slice A m c) (sl:Sl t W S' A m c l2) (hS':∀ b,S' b → S b)
  (h63:n+m≤maxLen) (hbytes:(n+m)*bytes≤140737488355328) (hbase:base≤W.heap.size) (hin:∀ b,S b → b < W.heap.size∧some b ≠ v.ownBlock)
  (h:∀ v' w',Own t w' S base E v' (n+m) (l ++ l2) → W.grownBy w' v.ownBlock → (v'.ownBlock=v.ownBlock ∨ v'.ownBlock=some W.heap.size) → wpList P ops Q rest (a.put o.dst v') w'):wpList P ops Q (o :: rest) a W :=
 wpList_plain hgd fun K hK=>oper_xrows s x ho ei hs own hx sl hS' h63 hbytes hbase hin fun v' w' h1 h2 h3=>hK _ _ (h v' w' h1 h2 h3)
theorem Own.lit {W:World} (hb:base≤W.heap.size):Own t (W.alloc (.cells #[] E)) S base E (.slice (some ⟨W.heap.size,0,none⟩) 0 0) 0 [] :=
 ⟨[],⟨by simp,.inr ⟨_,0,#[],rfl,hb,heap_alloc_new _ _,Nat.le_refl _,by decide,by simp,by simp⟩⟩,rfl⟩
end
end Go.Proofs.YtppcjcigekoipaaGreat
namespace Go.Proofs.YtppcjcigekoipaaGreat
open Go.RowKit Go.ChangeShapes Go.WideShapes
set_option maxRecDepth 100000
theorem ei_i32':EI Tryz.prog 45 21 (.int .i32 0) 1 4:=⟨Tryz.underlying45,by kernel_rfl,rfl,by decide⟩
theorem clone32_any (A:Option Addr) (n c:Nat) (l:List Int) (w:World) (h:Sl (tInt .i32) w (blo w.heap.size) A n c l) (hn:n≤35184372087808) :
  Calls Tryz.prog 67 #[.slice A n c] w (RetSl (tInt .i32) w l):=by
 cases A with
 | none =>
  have hc:=h.nil_ rfl
  have hm:=h.cap_le
  obtain rfl:c=0:=hc
  obtain rfl:n=0:=by omega
  obtain rfl:l=[]:=List.length_eq_zero_iff.1 h.n_eq
  clear h
  have q0:=fun w=>Lib.run_eql_slice_nil (P:=Tryz.prog) w 45 21 none 0 0 0 0 Tryz.underlying45
  simp only [Option.isNone_none] at q0
  go_enter Tryz.func67,Tryz.ntmps67
  go_wp2_with fail
  go_ret
  exact ⟨none,0,0,rfl,Sl.nil _ _ _,Below.refl _ _⟩
 | some ad =>
  have H:=zH h
  clear h
  have q0:=fun w=>Lib.run_eql_slice_nil (P:=Tryz.prog) w 45 21 (some ad) n c 0 0 Tryz.underlying45
  simp only [Option.isNone_some] at q0
  go_enter Tryz.func67,Tryz.ntmps67
  have o0:=Own.lit0 (W:=w) (k:=.i32) (E:=21) (base:=w.heap.size) (Nat.le_refl _)
  have k0:Below w.heap.size w (w.alloc (.cells #[] 21)):=(Below.refl _ _).alloc (Nat.le_refl _) _
  have s0:=H.out.later k0 (Nat.le_refl _)
  go_wp2_with (at_builtin;refine wpList_extend rfl _ _ rfl ei_i32' rfl o0 rfl s0 (by unfold maxLen;omega) (by omega) k0.size ?_;intro v' w' o' g' a')
  go_ret
  refine o'.ret (by decide) (k0.grown g' k0.size (fun k h=>(o0.lt k h).1)) (fun b h=>h.elim)
set_option maxHeartbeats 8000000 in
theorem plain_8 (a b k s p out za zb qm qs qz rm rs rz lo hi:Int) (wl bl:List Int) (W:Option Addr) (nw cw:Nat) (B:Option Addr) (nb cb:Nat) (w:World) (hw:Sl (tInt .i8) w (blo w.heap.size) W nw cw wl) (hb:Sl (tInt .i32) w (blo w.heap.size) B nb cb bl) (mw:nw≤1048576) (mb:nb≤1048576) :
  Calls Tryz.prog 140 #[.agg (nN 8 a b k s p out za zb W nw cw B nb cb qm qs qz rm rs rz lo hi)] w (RetNode ⟨8,a,0,0,0,p,0,za,0,[],[],0,0,0,0,0,0,0,0⟩ w):=by
 have HW:=zH (Old.now hw)
 have HB:=zH (Old.now hb)
 clear hw hb
 have SC:=zH (fun w=>scaledK_any 8 w)
 rw [show scaledK 8=false from rfl] at SC
 have NM:=zH (fun w=>kname_any 8 w)
 have FR:=zH (Far.refl w)
 obtain ⟨w1,hw_w1,BN,k_w1⟩:=nB w (nN 8 a b k s p out za zb W nw cw B nb cb qm qs qz rm rs rz lo hi) 87
 replace FR:=zH (FR.out.fut k_w1)
 replace HW:=zH (HW.out.fut k_w1)
 replace HB:=zH (HB.out.fut k_w1)
 clear k_w1
 obtain ⟨w2,hw_w2,BR,k_w2⟩:=nB w1 (nN 0 0 0 0 0 0 0 0 0 none 0 0 none 0 0 0 0 0 0 0 0 0 0) 87
 replace FR:=zH (FR.out.fut k_w2)
 replace HW:=zH (HW.out.fut k_w2)
 replace HB:=zH (HB.out.fut k_w2)
 replace BN:=zH (BN.out.fut k_w2)
 clear k_w2
 have cN0:=BN.out.cell 0
 have cN1:=BN.out.cell 1
 go_enter Tryz.func140,Tryz.ntmps140
 go_wp2_with fail
 have lr0:=zH (show w.heap.size≤w1.heap.size by rw [← hw_w1];simp)
 clear hw_w1 hw_w2
 refine (NM.out _).mono ?_
 rintro e w3 ⟨rfl,hb⟩
 have tn:(nameOf 8).toList.isEmpty=false:=by rw [ByteArray.toList_eq];rfl
 clear cN0 cN1
 replace FR:=zH (FR.out.fut hb)
 replace HW:=zH (HW.out.fut hb)
 replace HB:=zH (HB.out.fut hb)
 replace BN:=zH (BN.out.fut hb)
 replace BR:=zH (BR.out.fut hb)
 clear hb
 have ln:w.heap.size < w3.heap.size:=BN.out.lt
 have lr:w1.heap.size < w3.heap.size:=BR.out.lt
 have cN0:=BN.out.cell 0
 have cN1:=BN.out.cell 1
 obtain ⟨w4,hw_w4,BM,k_w4⟩:=nB w3 (nN 0 0 0 0 0 0 0 0 0 none 0 0 none 0 0 0 0 0 0 0 0 0 0) 87
 replace FR:=zH (FR.out.fut k_w4)
 replace HW:=zH (HW.out.fut k_w4)
 replace HB:=zH (HB.out.fut k_w4)
 replace BN:=zH (BN.out.fut k_w4)
 replace BR:=zH (BR.out.fut k_w4)
 clear k_w4
 go_wp2_with (refine sB 87 (.tmp 3) (.tmp 13) w3.heap.size (nN 8 a 0 0 0 0 0 0 0 none 0 0 none 0 0 0 0 0 0 0 0 0 0) BM.out ?_;intro w5 BM5 g5;have cM0:=(BN.out.away g5 (by omega)).cell 0)
 clear hw_w4 cM0
 clear cN0 cN1
 replace FR:=zH (FR.out.away g5 (by omega))
 replace HW:=zH (HW.out.away g5 (by omega))
 replace HB:=zH (HB.out.away g5 (by omega))
 replace BN:=zH (BN.out.away g5 (by omega))
 replace BR:=zH (BR.out.away g5 (by omega))
 clear g5
 refine wp_region_held_drew (S:=fun w'=>w'.cell? ⟨w.heap.size,5,none⟩=some (.int .i64 p)∧w'.cell? ⟨w.heap.size,7,none⟩=some (.int .i8 za)∧Blk w' w.heap.size 87 (nN 8 a b k s p out za zb W nw cw B nb cb qm qs qz rm rs rz lo hi)∧Below w.heap.size w w') (by kernel_rfl) ?_ (fun hS=>?_)
 ·exact ⟨BN.out.drew.cell 5,BN.out.drew.cell 7,BN.out.drew,FR.out.out.drew⟩
 refine kH 0 rfl hS ?_
 try simp only [pX]
 refine kH 1 rfl hS ?_
 try simp only [pX]
 refine kH 2 rfl hS ?_
 try simp only [pX]
 refine kH 3 rfl hS ?_
 try simp only [pX]
 refine kH 4 rfl hS ?_
 try simp only [pX]
 refine rH 5 rfl (fun K hK=>?_)
 (rw [if_pos (by rfl)];refine oper_store_one 3 (.tmp 78) (.tmp 75) rfl w3.heap.size 5 (.int .i64 p) rfl rfl rfl rfl _ (nN 8 a 0 0 0 0 0 0 0 none 0 0 none 0 0 0 0 0 0 0 0 0 0) (nN 8 a 0 0 0 p 0 0 0 none 0 0 none 0 0 0 0 0 0 0 0 0 0) BM5.drew (by simp) (by kernel_rfl) rfl ?_;intro w6 BM6 g6;have BN6:=(hS.2.2.1).away g6 (by omega);refine hK.out _ _ ⟨BN6.cell 5,BN6.cell 7,BN6,(hS.2.2.2).grown g6 (hS.2.2.2).size (fun k h=>by have:=Option.some.inj h;omega)⟩ (fun hS=>?_))
 clear hK K
 try simp only [pX]
 refine kH 6 rfl hS ?_
 try simp only [pX]
 refine rH 7 rfl (fun K hK=>?_)
 (rw [if_pos (by rfl)];refine oper_store_one 83 (.tmp 79) (.tmp 77) rfl w3.heap.size 7 (.int .i8 za) rfl rfl rfl rfl _ (nN 8 a 0 0 0 p 0 0 0 none 0 0 none 0 0 0 0 0 0 0 0 0 0) (nN 8 a 0 0 0 p 0 za 0 none 0 0 none 0 0 0 0 0 0 0 0 0 0) BM6 (by simp) (by kernel_rfl) rfl ?_;intro w7 BM7 g7;have BN7:=(hS.2.2.1).away g7 (by omega);refine hK.out _ _ ⟨BN7.cell 5,BN7.cell 7,BN7,(hS.2.2.2).grown g7 (hS.2.2.2).size (fun k h=>by have:=Option.some.inj h;omega)⟩ (fun hS=>?_))
 clear hK K
 try simp only [pX]
 refine wpAnyH_done (by kernel_rfl) ?_ _
 replace FR:=zH (Far.mk (hS.2.2.2))
 replace BN:=zH (hS.2.2.1)
 clear hS BN6 BN7
 replace HW:=zH (HW.out.draw)
 replace HB:=zH (HB.out.draw)
 replace BR:=zH (BR.out.draw)
 replace HW:=zH (HW.out.away g6 (by omega))
 replace HB:=zH (HB.out.away g6 (by omega))
 replace BR:=zH (BR.out.away g6 (by omega))
 clear g6
 replace HW:=zH (HW.out.away g7 (by omega))
 replace HB:=zH (HB.out.away g7 (by omega))
 replace BR:=zH (BR.out.away g7 (by omega))
 clear g7
 clear BM6
 have cN0:=BN.out.cell 0
 go_wp2_with (first
  | (go_at_call 141;refine (SC.out _).mono ?_;rintro e w' ⟨rfl,rfl⟩)
  | (refine lB 87 (.tmp 3) w3.heap.size BM7 Tryz.underlying87 ?_)
  | (refine sB 87 (.tmp 2) (.tmp 95) w1.heap.size (nN 8 a 0 0 0 p 0 za 0 none 0 0 none 0 0 0 0 0 0 0 0 0 0) BR.out ?_;intro wz BZ gz))
 clear cN0
 replace FR:=zH (FR.out.away gz (by have:=lr0.out;omega))
 refine ret_cell rfl BZ rfl Tryz.underlying87 (by kernel_rfl) rfl ⟨none,0,0,none,0,0,rfl,Sl.nil _ _ _,Sl.nil _ _ _,FR.out.out⟩
set_option maxHeartbeats 8000000 in
theorem plain_9 (a b k s p out za zb qm qs qz rm rs rz lo hi:Int) (wl bl:List Int) (W:Option Addr) (nw cw:Nat) (B:Option Addr) (nb cb:Nat) (w:World) (hw:Sl (tInt .i8) w (blo w.heap.size) W nw cw wl) (hb:Sl (tInt .i32) w (blo w.heap.size) B nb cb bl) (mw:nw≤1048576) (mb:nb≤1048576) :
  Calls Tryz.prog 140 #[.agg (nN 9 a b k s p out za zb W nw cw B nb cb qm qs qz rm rs rz lo hi)] w (RetNode ⟨9,a,0,0,0,0,0,0,0,[],[],0,0,0,0,0,0,0,0⟩ w):=by
 have HW:=zH (Old.now hw)
 have HB:=zH (Old.now hb)
 clear hw hb
 have SC:=zH (fun w=>scaledK_any 9 w)
 rw [show scaledK 9=false from rfl] at SC
 have NM:=zH (fun w=>kname_any 9 w)
 have FR:=zH (Far.refl w)
 obtain ⟨w1,hw_w1,BN,k_w1⟩:=nB w (nN 9 a b k s p out za zb W nw cw B nb cb qm qs qz rm rs rz lo hi) 87
 replace FR:=zH (FR.out.fut k_w1)
 replace HW:=zH (HW.out.fut k_w1)
 replace HB:=zH (HB.out.fut k_w1)
 clear k_w1
 obtain ⟨w2,hw_w2,BR,k_w2⟩:=nB w1 (nN 0 0 0 0 0 0 0 0 0 none 0 0 none 0 0 0 0 0 0 0 0 0 0) 87
 replace FR:=zH (FR.out.fut k_w2)
 replace HW:=zH (HW.out.fut k_w2)
 replace HB:=zH (HB.out.fut k_w2)
 replace BN:=zH (BN.out.fut k_w2)
 clear k_w2
 have cN0:=BN.out.cell 0
 have cN1:=BN.out.cell 1
 go_enter Tryz.func140,Tryz.ntmps140
 go_wp2_with fail
 have lr0:=zH (show w.heap.size≤w1.heap.size by rw [← hw_w1];simp)
 clear hw_w1 hw_w2
 refine (NM.out _).mono ?_
 rintro e w3 ⟨rfl,hb⟩
 have tn:(nameOf 9).toList.isEmpty=false:=by rw [ByteArray.toList_eq];rfl
 clear cN0 cN1
 replace FR:=zH (FR.out.fut hb)
 replace HW:=zH (HW.out.fut hb)
 replace HB:=zH (HB.out.fut hb)
 replace BN:=zH (BN.out.fut hb)
 replace BR:=zH (BR.out.fut hb)
 clear hb
 have ln:w.heap.size < w3.heap.size:=BN.out.lt
 have lr:w1.heap.size < w3.heap.size:=BR.out.lt
 have cN0:=BN.out.cell 0
 have cN1:=BN.out.cell 1
 obtain ⟨w4,hw_w4,BM,k_w4⟩:=nB w3 (nN 0 0 0 0 0 0 0 0 0 none 0 0 none 0 0 0 0 0 0 0 0 0 0) 87
 replace FR:=zH (FR.out.fut k_w4)
 replace HW:=zH (HW.out.fut k_w4)
 replace HB:=zH (HB.out.fut k_w4)
 replace BN:=zH (BN.out.fut k_w4)
 replace BR:=zH (BR.out.fut k_w4)
 clear k_w4
 go_wp2_with (refine sB 87 (.tmp 3) (.tmp 13) w3.heap.size (nN 9 a 0 0 0 0 0 0 0 none 0 0 none 0 0 0 0 0 0 0 0 0 0) BM.out ?_;intro w5 BM5 g5;have cM0:=(BN.out.away g5 (by omega)).cell 0)
 clear hw_w4 cM0
 clear cN0 cN1
 replace FR:=zH (FR.out.away g5 (by omega))
 replace HW:=zH (HW.out.away g5 (by omega))
 replace HB:=zH (HB.out.away g5 (by omega))
 replace BN:=zH (BN.out.away g5 (by omega))
 replace BR:=zH (BR.out.away g5 (by omega))
 clear g5
 have cN0:=BN.out.cell 0
 go_wp2_with (first
  | (go_at_call 141;refine (SC.out _).mono ?_;rintro e w' ⟨rfl,rfl⟩)
  | (refine lB 87 (.tmp 3) w3.heap.size BM5 Tryz.underlying87 ?_)
  | (refine sB 87 (.tmp 2) (.tmp 95) w1.heap.size (nN 9 a 0 0 0 0 0 0 0 none 0 0 none 0 0 0 0 0 0 0 0 0 0) BR.out ?_;intro wz BZ gz))
 clear cN0
 replace FR:=zH (FR.out.away gz (by have:=lr0.out;omega))
 refine ret_cell rfl BZ rfl Tryz.underlying87 (by kernel_rfl) rfl ⟨none,0,0,none,0,0,rfl,Sl.nil _ _ _,Sl.nil _ _ _,FR.out.out⟩
set_option maxHeartbeats 2000000
theorem half_bit (m k:Nat):m / 2 ^ k % 2=if 2 ^ (k+1)≤2*(m % 2 ^ (k+1)) then 1 else 0:=by
 have hp:0 < 2 ^ k:=Nat.two_pow_pos k
 rw [Nat.pow_succ]
 generalize 2 ^ k=p at *
 have h1:=Nat.div_add_mod m (p*2)
 have h2:m % (p*2) < p*2:=Nat.mod_lt _ (by omega)
 have h3:m / p=2*(m / (p*2))+m % (p*2) / p:=by
  have e:m=p*(2*(m / (p*2)))+m % (p*2):=by rw [← Nat.mul_assoc];exact h1.symm
  conv=>lhs;rw [e]
  rw [Nat.mul_add_div hp]
 rw [h3]
 generalize m % (p*2)=b at *
 split
 ·have:b / p=1:=by
   rw [Nat.div_eq_iff hp];omega
  omega
 ·have:b / p=0:=Nat.div_eq_of_lt (by omega)
  omega
theorem sizeR_eq (m n:Nat):sizeR m n=m / 2 ^ n+if 1 < 2 ^ n∧2 ^ n - m % 2 ^ n≤m % 2 ^ n then 1 else 0:=by
 unfold sizeR
 have hb:m % 2 ^ n < 2 ^ n:=Nat.mod_lt _ (Nat.two_pow_pos n)
 cases n with
 | zero=>simp
 | succ k =>
  rw [if_neg (by omega),Nat.add_sub_cancel,half_bit]
  have hp:0 < 2 ^ k:=Nat.two_pow_pos k
  have e:2 ^ (k+1)=2 ^ k*2:=Nat.pow_succ 2 k
  generalize m % 2 ^ (k+1)=b at *
  congr 1
  by_cases h:2 ^ (k+1)≤2*b
  ·rw [if_pos h,if_pos (by omega)]
  ·rw [if_neg h,if_neg (by omega)]
theorem rround_any (v s:Int) (w:World) (hv:InK .i64 v):Calls Tryz.prog 150 #[.int .i64 v,.int .i64 s] w fun e w'=>e=.returned (.int .i64 (roundV v s))∧Below w.heap.size w w':=by
 rw [inK_i64] at hv
 obtain ⟨hv1,hv2⟩:=hv
 unfold roundV
 by_cases a1:s < 0
 ·rw [if_pos (.inl a1)]
  go_enter Tryz.func150,Tryz.ntmps150
  go_wp2_with fail
  go_ret
  exact ⟨rfl,Below.refl _ _⟩
 ·by_cases a2:62 < s
  ·rw [if_pos (.inr a2)]
   go_enter Tryz.func150,Tryz.ntmps150
   go_wp2_with fail
   go_ret
   exact ⟨rfl,Below.refl _ _⟩
  ·rw [if_neg (by omega)]
   obtain ⟨n,rfl⟩:∃ n:Nat,s=n:=⟨s.toNat,by omega⟩
   rw [Int.toNat_natCast]
   have hs62:(n:Int)≤62:=by omega
   have PB:=zH (fun i (h:i≤n)=>show 1≤2 ^ i∧2 ^ i≤4611686018427387904 from ⟨Nat.two_pow_pos i,Nat.le_trans (Nat.pow_le_pow_right (by decide) (show i≤62 by omega)) (by decide)⟩)
   clear a1 a2
   obtain ⟨res,hres⟩:∃ res:Int,(if v < 0 then -(sizeR v.natAbs n:Int) else (sizeR v.natAbs n:Int))=res:=⟨_,rfl⟩
   rw [hres]
   have HR:=zH hres
   clear hres
   go_enter Tryz.func150,Tryz.ntmps150
   go_wp2_with fail
   go_loopw [5,6] (fun u ii wr=>∃ i:Nat,i≤n∧ii=.int .i64 i∧u=.int .i64 ((2 ^ i:Nat):Int)∧w=wr) (fun _ ii _=>n - (intOf ii).toNat)
   case atStart=>exact ⟨0,Nat.zero_le _,rfl,rfl,rfl⟩
   case round =>
    obtain ⟨i,hi,rfl,rfl,rfl⟩:=hrel
    have hp1:=PB.out i hi
    by_cases hlt:i < n
    ·have p1:(i:Int) < (n:Int):=by omega
     have hp2:=PB.out (i+1) hlt
     have HP:=zH (Nat.pow_succ 2 i)
     rw [HP.out] at hp2
     generalize 2 ^ i=p at *
     go_wp2_with fail
     exact ⟨⟨i+1,by omega,by go_num,by rw [HP.out];go_num,by trivial⟩,by simp [intOf];omega⟩
    ·obtain rfl:i=n:=by omega
     have SE:=zH (sizeR_eq v.natAbs i)
     generalize 2 ^ i=p at *
     obtain ⟨hp3,hp4⟩:=hp1
     have pz:¬ p=0:=by omega
     by_cases b1:v < 0
     ·have hr:=HR.out
      rw [if_pos b1,SE.out] at hr
      obtain ⟨m,rfl⟩:∃ m:Nat,v=-(m:Int):=⟨v.natAbs,by omega⟩
      rw [show (-(m:Int)).natAbs=m by omega] at hr
      have d1:(-(m:Int)).tdiv (p:Int)=-((m / p:Nat):Int):=by rw [Int.neg_tdiv,Int.tdiv_eq_ediv_of_nonneg (by omega)];simp
      have d2:(-(m:Int)).tmod (p:Int)=-((m % p:Nat):Int):=by rw [Int.neg_tmod,Int.tmod_eq_emod_of_nonneg (by omega)];simp
      obtain ⟨a,ha⟩:∃ a,m / p=a:=⟨_,rfl⟩
      obtain ⟨b,hb⟩:∃ b,m % p=b:=⟨_,rfl⟩
      have ha2:a≤m:=by rw [← ha];exact Nat.div_le_self _ _
      have hb2:b < p:=by rw [← hb];exact Nat.mod_lt _ (by omega)
      rw [ha] at d1 hr
      rw [hb] at d2 hr
      have ha3:1 < p → a≤4611686018427387904:=by
       intro h
       rw [← ha]
       have h5:m / p≤m / 2:=Nat.div_le_div_left h (by decide)
       omega
      have ha3:=zH ha3
      clear ha hb SE HR
      have e1:IntKind.i64.wrap (-(a:Int))=-(a:Int):=by rw [IntKind.wrap_i64];omega
      have e2:IntKind.i64.wrap (-(b:Int))=-(b:Int):=by rw [IntKind.wrap_i64];omega
      by_cases c1:b=0
      ·subst c1
       rw [if_neg (by omega),Nat.add_zero] at hr
       subst hr
       have t1:¬ p≤0:=by omega
       have t2:¬ (p:Int)≤0:=by omega
       simp only [Int.natCast_zero,Int.neg_zero,Int.ofNat_zero] at d2 e2
       go_wp2_with fail
       go_quiet (fail)
       go_wp2_with fail
       go_ret
       exact ⟨rfl,below_drewN (Below.refl _ _) _⟩
      ·by_cases c2:p - b≤b
       ·rw [if_pos (by omega)] at hr
        subst hr
        have ha4:=ha3.out (by omega)
        have t1:(p:Int)+-(b:Int)≤(b:Int):=by omega
        have t2:(p:Int) - (b:Int)≤(b:Int):=by omega
        have t3:0 < b:=by omega
        have t4:¬ (0:Int)≤-(b:Int):=by omega
        have t5:-(b:Int) < 0:=by omega
        go_wp2_with fail
        go_quiet (fail)
        go_wp2_with fail
        go_ret
        exact ⟨by show Ending.returned (.int .i64 _)=_;go_num,below_drewN (Below.refl _ _) _⟩
       ·rw [if_neg (by omega),Nat.add_zero] at hr
        subst hr
        have t1:¬ (p:Int)+-(b:Int)≤(b:Int):=by omega
        have t2:¬ (p:Int) - (b:Int)≤(b:Int):=by omega
        have t3:0 < b:=by omega
        have t4:¬ (0:Int)≤-(b:Int):=by omega
        have t5:-(b:Int) < 0:=by omega
        go_wp2_with fail
        go_quiet (fail)
        go_wp2_with fail
        go_ret
        exact ⟨rfl,below_drewN (Below.refl _ _) _⟩
     ·have hr:=HR.out
      rw [if_neg b1,SE.out] at hr
      obtain ⟨m,rfl⟩:∃ m:Nat,v=(m:Int):=⟨v.natAbs,by omega⟩
      rw [show ((m:Int)).natAbs=m by omega] at hr
      have d1:(m:Int).tdiv (p:Int)=((m / p:Nat):Int):=by rw [Int.tdiv_eq_ediv_of_nonneg (by omega)];simp
      have d2:(m:Int).tmod (p:Int)=((m % p:Nat):Int):=by rw [Int.tmod_eq_emod_of_nonneg (by omega)];simp
      obtain ⟨a,ha⟩:∃ a,m / p=a:=⟨_,rfl⟩
      obtain ⟨b,hb⟩:∃ b,m % p=b:=⟨_,rfl⟩
      have ha2:a≤m:=by rw [← ha];exact Nat.div_le_self _ _
      have hb2:b < p:=by rw [← hb];exact Nat.mod_lt _ (by omega)
      rw [ha] at d1 hr
      rw [hb] at d2 hr
      have ha3:1 < p → a≤4611686018427387904:=by
       intro h
       rw [← ha]
       have h5:m / p≤m / 2:=Nat.div_le_div_left h (by decide)
       omega
      clear ha hb SE HR
      have e1:IntKind.i64.wrap (a:Int)=(a:Int):=by rw [IntKind.wrap_i64];omega
      have e2:IntKind.i64.wrap (b:Int)=(b:Int):=by rw [IntKind.wrap_i64];omega
      have t3:¬ (b:Int) < 0:=by omega
      by_cases c2:p - b≤b
      ·rw [if_pos (by omega)] at hr
       subst hr
       have t1:(p:Int) - (b:Int)≤(b:Int):=by omega
       have t2:1 < p:=by omega
       have ha4:=ha3 t2
       clear ha3
       go_wp2_with fail
       go_quiet (fail)
       go_wp2_with fail
       go_ret
       exact ⟨by show Ending.returned (.int .i64 _)=_;go_num,below_drewN (Below.refl _ _) _⟩
      ·rw [if_neg (by omega),Nat.add_zero] at hr
       subst hr
       have t1:¬ (p:Int) - (b:Int)≤(b:Int):=by omega
       clear ha3
       go_wp2_with fail
       go_quiet (fail)
       go_wp2_with fail
       go_ret
       exact ⟨rfl,below_drewN (Below.refl _ _) _⟩
end Go.Proofs.YtppcjcigekoipaaGreat
namespace Go.Proofs.YtppcjcigekoipaaGreat
open Go.RowKit Go.ChangeShapes Go.WideShapes Fx
set_option maxRecDepth 100000
set_option maxHeartbeats 2000000
theorem roundV_le (v s:Int) (b:Nat) (h:v.natAbs≤b):(roundV v s).natAbs≤b:=by
 unfold roundV
 have:=sizeR_le v.natAbs s.toNat
 split
 ·simp
 ·split <;> omega
theorem prod32 {a b:Int} (ha:InK .i32 a) (hb:InK .i32 b):(a*b).natAbs≤4611686018427387904:=by
 rw [inK_i32] at ha hb
 exact Nat.le_trans (natAbs_mul_le (m:=2147483648) (n:=2147483648) (by omega) (by omega)) (by decide)
theorem scale_any (acc m s:Int) (w:World) (ha:InK .i32 acc) (hm:InK .i32 m) :
  Calls Tryz.prog 226 #[.int .i32 acc,.int .i32 m,.int .i64 s] w fun e w'=>e=.returned (.int .i64 (roundV (acc*m) s))∧Below w.heap.size w w':=by
 have hp:=prod32 ha hm
 rw [inK_i32] at ha hm
 obtain ⟨a1,a2⟩:=ha
 obtain ⟨m1,m2⟩:=hm
 obtain ⟨p,hpp⟩:∃ p,acc*m=p:=⟨_,rfl⟩
 rw [hpp] at hp ⊢
 have e1:IntKind.i64.wrap (acc*m)=p:=by rw [hpp];exact IntWalk.i64_in _ (by omega)
 have RA:=zH (fun w=>round_any p s w (by rw [inK_i64];omega))
 have e3:p≤4611686018427387904:=by omega
 have e4:-4611686018427387904≤p:=by omega
 clear hp
 go_enter Tryz.func226,Tryz.ntmps226
 go_wp2_with (go_at_call 245;refine (RA.out _).mono ?_;rintro e w2 ⟨rfl,hb⟩)
 go_ret
 exact ⟨rfl,hb⟩
def heldQ (acc m s z lo hi:Int):Int:=if quantOk m s=true then w8 (heldV (roundV (acc*m) s+z) lo hi) else 0
theorem heldQ_in (acc m s z lo hi:Int):InK .i8 (heldQ acc m s z lo hi):=by
 unfold heldQ
 split
 ·exact w8_in _
 ·decide
theorem fixHeld_any (acc m s z lo hi:Int) (w:World) (ha:InK .i32 acc) (hm:InK .i32 m) (hz:InK .i8 z) (hlo:InK .i8 lo) (hhi:InK .i8 hi) :
  Calls Tryz.prog 204 #[.int .i32 acc,.agg #[.int .i32 m,.int .i64 s,.int .i8 z],.int .i8 lo,.int .i8 hi] w fun e w'=>e=.returned (.int .i8 (heldQ acc m s z lo hi))∧Below w.heap.size w w':=by
 have hp:=roundV_le (acc*m) s _ (prod32 ha hm)
 have QR:=zH (fun w=>fixRight_any m s z w)
 have SC:=zH (fun w=>scale_any acc m s w ha hm)
 have HH:=zH (show heldQ acc m s z lo hi=if quantOk m s=true then w8 (heldV (roundV (acc*m) s+z) lo hi) else 0 from rfl)
 obtain ⟨r,hr⟩:∃ r,roundV (acc*m) s=r:=⟨_,rfl⟩
 rw [hr] at hp SC HH
 rw [inK_i8] at hz
 obtain ⟨z1,z2⟩:=hz
 have e1:IntKind.i64.wrap (r+z)=r+z:=IntWalk.i64_in _ (by omega)
 have e2:IntKind.i64.wrap z=z:=IntWalk.i64_in _ (by omega)
 have CL:=zH (fun w=>clamp_any (r+z) lo hi w hlo hhi)
 obtain ⟨q,hq⟩:∃ q,quantOk m s=q:=⟨_,rfl⟩
 rw [hq] at QR HH
 have FR:=zH (Far.refl w)
 obtain ⟨w1,hw_w1,BQ,k_w1⟩:=nB w #[.int .i32 m,.int .i64 s,.int .i8 z] 85
 replace FR:=zH (FR.out.fut k_w1)
 clear k_w1
 have d0:=BQ.out.cell 0
 have d1:=BQ.out.cell 1
 have d2:=BQ.out.cell 2
 clear hr hq ha hm hlo hhi
 cases q with
 | false =>
  rw [if_neg (by decide)] at HH
  rw [HH.out]
  go_enter Tryz.func204,Tryz.ntmps204
  go_wp2_with (go_at_call 142;refine (QR.out _).mono ?_;rintro e w2 ⟨rfl,hb⟩)
  go_ret
  exact ⟨rfl,(FR.out.fut hb).out⟩
 | true =>
  rw [if_pos rfl] at HH
  rw [HH.out]
  go_enter Tryz.func204,Tryz.ntmps204
  go_wp2_with (go_at_call 142;refine (QR.out _).mono ?_;rintro e w2 ⟨rfl,hb⟩)
  replace FR:=zH (FR.out.fut hb)
  replace BQ:=zH (BQ.out.fut hb)
  clear d0 d1 d2 hw_w1 hb
  have d0:∀ q:Ext w2,q.1.cell? ⟨w.heap.size,0,none⟩=some (.int .i32 m):=fun q=>(BQ.out.ext q).cell 0
  have d1:∀ q:Ext w2,q.1.cell? ⟨w.heap.size,1,none⟩=some (.int .i64 s):=fun q=>(BQ.out.ext q).cell 1
  have d2:∀ q:Ext w2,q.1.cell? ⟨w.heap.size,2,none⟩=some (.int .i8 z):=fun q=>(BQ.out.ext q).cell 2
  have E1:=zH (fun q:Ext w2=>calls_ext q (SC.out q.1))
  have E2:=zH (fun q:Ext w2=>calls_ext q ((CL.out q.1).mono (fun e w' h=>⟨h.1,by rw [← h.2];exact Below.refl _ _⟩)))
  refine wp_region_ext w2 (by kernel_rfl) (by kernel_rfl) (Below.refl _ _) ?_
  repeat (go_big_quiet_step (first|(exact E1.out _)|(exact E2.out _)))
  refine wpQuiet_nil ?_
  rintro _ ⟨⟨w3,hB⟩,rfl⟩
  go_wp2_with fail
  go_ret
  exact ⟨rfl,(FR.out.fut hB).out⟩
theorem rfixHeld_any (acc m s z lo hi:Int) (w:World) (ha:InK .i32 acc) (hm:InK .i32 m) (hz:InK .i8 z) (hlo:InK .i8 lo) (hhi:InK .i8 hi) :
  Calls Tryz.prog 149 #[.int .i32 acc,.agg #[.int .i32 m,.int .i64 s,.int .i8 z],.int .i8 lo,.int .i8 hi] w fun e w'=>e=.returned (.int .i8 (heldQ acc m s z lo hi))∧Below w.heap.size w w':=by
 have hp:=roundV_le (acc*m) s _ (prod32 ha hm)
 have hp0:=prod32 ha hm
 have QR:=zH (fun w=>rfixRight_any m s z w)
 obtain ⟨pm,hpm⟩:∃ p,acc*m=p:=⟨_,rfl⟩
 rw [hpm] at hp hp0
 have RA:=zH (fun w=>rround_any pm s w (by rw [inK_i64];omega))
 have HH:=zH (show heldQ acc m s z lo hi=if quantOk m s=true then w8 (heldV (roundV (acc*m) s+z) lo hi) else 0 from rfl)
 rw [hpm] at HH
 obtain ⟨r,hr⟩:∃ r,roundV pm s=r:=⟨_,rfl⟩
 rw [hr] at hp RA HH
 rw [inK_i8] at hz hlo hhi
 rw [inK_i32] at ha hm
 obtain ⟨z1,z2⟩:=hz
 obtain ⟨l1,l2⟩:=hlo
 obtain ⟨h1,h2⟩:=hhi
 obtain ⟨a1,a2⟩:=ha
 obtain ⟨m1,m2⟩:=hm
 have e1:IntKind.i64.wrap (r+z)=r+z:=IntWalk.i64_in _ (by omega)
 have e2:IntKind.i64.wrap z=z:=IntWalk.i64_in _ (by omega)
 have e3:IntKind.i64.wrap (acc*m)=pm:=by rw [hpm];exact IntWalk.i64_in _ (by omega)
 have e4:IntKind.i64.wrap acc=acc:=IntWalk.i64_in _ (by omega)
 have e5:IntKind.i64.wrap m=m:=IntWalk.i64_in _ (by omega)
 have CL:=zH (fun w=>rheld_any (r+z) lo hi w)
 have W8:=zH (show w8 (heldV (r+z) lo hi)=IntKind.i8.wrap (heldV (r+z) lo hi) from rfl)
 rw [W8.out] at HH
 obtain ⟨q,hq⟩:∃ q,quantOk m s=q:=⟨_,rfl⟩
 rw [hq] at QR HH
 have FR:=zH (Far.refl w)
 obtain ⟨w1,hw_w1,BQ,k_w1⟩:=nB w #[.int .i32 m,.int .i64 s,.int .i8 z] 85
 replace FR:=zH (FR.out.fut k_w1)
 clear k_w1
 have d0:=BQ.out.cell 0
 have d1:=BQ.out.cell 1
 have d2:=BQ.out.cell 2
 clear hr hq hpm
 cases q with
 | false =>
  rw [if_neg (by decide)] at HH
  rw [HH.out]
  go_enter Tryz.func149,Tryz.ntmps149
  go_wp2_with (go_at_call 79;refine (QR.out _).mono ?_;rintro e w2 ⟨rfl,hb⟩)
  go_ret
  exact ⟨rfl,(FR.out.fut hb).out⟩
 | true =>
  rw [if_pos rfl] at HH
  rw [HH.out]
  go_enter Tryz.func149,Tryz.ntmps149
  go_wp2_with (go_at_call 79;refine (QR.out _).mono ?_;rintro e w2 ⟨rfl,hb⟩)
  replace FR:=zH (FR.out.fut hb)
  replace BQ:=zH (BQ.out.fut hb)
  clear d0 d1 d2 hw_w1 hb
  have d0:∀ q:Ext w2,q.1.cell? ⟨w.heap.size,0,none⟩=some (.int .i32 m):=fun q=>(BQ.out.ext q).cell 0
  have d1:∀ q:Ext w2,q.1.cell? ⟨w.heap.size,1,none⟩=some (.int .i64 s):=fun q=>(BQ.out.ext q).cell 1
  have d2:∀ q:Ext w2,q.1.cell? ⟨w.heap.size,2,none⟩=some (.int .i8 z):=fun q=>(BQ.out.ext q).cell 2
  have E1:=zH (fun q:Ext w2=>calls_ext q (RA.out q.1))
  refine wp_region_ext w2 (by kernel_rfl) (by kernel_rfl) (Below.refl _ _) ?_
  repeat (go_big_quiet_step ((exact E1.out _)))
  refine wpQuiet_nil ?_
  rintro _ ⟨⟨w3,hB⟩,rfl⟩
  go_wp2_with (go_at_call 151;refine (CL.out _).mono ?_;rintro e w4 ⟨rfl,rfl⟩)
  go_ret
  exact ⟨rfl,(FR.out.fut hB).out⟩
end Go.Proofs.YtppcjcigekoipaaGreat
namespace Go.Proofs.YtppcjcigekoipaaGreat
open Go.RowKit Go.ChangeShapes Go.WideShapes
set_option maxRecDepth 100000
set_option maxHeartbeats 4000000
def clamp32 (a:Int):Int:=min (max a (-2147483648)) 2147483647
theorem clamp32_in (a:Int):InK .i32 (clamp32 a):=by unfold clamp32;rw [inK_i32];omega
theorem clamp32_wrap (a:Int):IntKind.i32.wrap (min (max a (-2147483648)) 2147483647)=clamp32 a:=by
 have h:=clamp32_in a
 unfold clamp32 at *
 rw [inK_i32] at h
 exact IntWalk.i32_in _ (by omega)
theorem mxI' (x:Int):(if x < -2147483648 then -2147483648 else x)=max x (-2147483648):=by split <;> omega
theorem mnI' (x:Int):(if 2147483647 < x then 2147483647 else x)=min x 2147483647:=by split <;> omega
def afterR (r:Int × Int) (m s z lo hi:Int):Int × Int:=(min (heldQ (clamp32 r.1) m s z lo hi) (heldQ (clamp32 r.2) m s z lo hi),max (heldQ (clamp32 r.1) m s z lo hi) (heldQ (clamp32 r.2) m s z lo hi))
theorem afterR_in (r:Int × Int) (m s z lo hi:Int):InK .i8 (afterR r m s z lo hi).1∧InK .i8 (afterR r m s z lo hi).2:=by
 have h1:=heldQ_in (clamp32 r.1) m s z lo hi
 have h2:=heldQ_in (clamp32 r.2) m s z lo hi
 unfold afterR
 rw [inK_i8] at *
 rw [inK_i8]
 simp only
 omega
theorem spanAfter_any (a b m s z lo hi:Int) (w:World) (hm:InK .i32 m) (hz:InK .i8 z) (hlo:InK .i8 lo) (hhi:InK .i8 hi) :
  Calls Tryz.prog 199 #[.agg #[.int .i64 a,.int .i64 b],.agg #[.int .i32 m,.int .i64 s,.int .i8 z],.int .i8 lo,.int .i8 hi] w fun e w'=>e=.returned (.tuple #[.int .i8 (afterR (a,b) m s z lo hi).1,.int .i8 (afterR (a,b) m s z lo hi).2])∧Below w.heap.size w w':=by
 obtain ⟨x,hx⟩:∃ x,clamp32 a=x:=⟨_,rfl⟩
 obtain ⟨y,hy⟩:∃ x,clamp32 b=x:=⟨_,rfl⟩
 have ix:InK .i32 x:=by rw [← hx];exact clamp32_in a
 have iy:InK .i32 y:=by rw [← hy];exact clamp32_in b
 have HX:=zH (fun w=>fixHeld_any x m s z lo hi w ix hm hz hlo hhi)
 have HY:=zH (fun w=>fixHeld_any y m s z lo hi w iy hm hz hlo hhi)
 obtain ⟨p,hp⟩:∃ p,heldQ x m s z lo hi=p:=⟨_,rfl⟩
 obtain ⟨q,hq⟩:∃ p,heldQ y m s z lo hi=p:=⟨_,rfl⟩
 have RE:=zH (show afterR (a,b) m s z lo hi=(min p q,max p q) by unfold afterR;simp only;rw [hx,hy,hp,hq])
 rw [hp] at HX
 rw [hq] at HY
 obtain ⟨a1,ha1⟩:∃ u,max a (-2147483648)=u:=⟨_,rfl⟩
 obtain ⟨a2,ha2⟩:∃ u,min a1 2147483647=u:=⟨_,rfl⟩
 have ka1:(if a < -2147483648 then -2147483648 else a)=a1:=by rw [mxI',ha1]
 have ka2:(if 2147483647 < a1 then 2147483647 else a1)=a2:=by rw [mnI',ha2]
 have ka3:IntKind.i32.wrap a2=x:=by rw [← ha2,← ha1,← hx];exact clamp32_wrap a
 obtain ⟨b1,hb1⟩:∃ u,max b (-2147483648)=u:=⟨_,rfl⟩
 obtain ⟨b2,hb2⟩:∃ u,min b1 2147483647=u:=⟨_,rfl⟩
 have kb1:(if b < -2147483648 then -2147483648 else b)=b1:=by rw [mxI',hb1]
 have kb2:(if 2147483647 < b1 then 2147483647 else b1)=b2:=by rw [mnI',hb2]
 have kb3:IntKind.i32.wrap b2=y:=by rw [← hb2,← hb1,← hy];exact clamp32_wrap b
 obtain ⟨u,hu⟩:∃ u,min p q=u:=⟨_,rfl⟩
 obtain ⟨v,hv⟩:∃ u,max p q=u:=⟨_,rfl⟩
 have f3:(if q < p then q else p)=u:=by rw [mnI,hu]
 have f4:(if p < q then q else p)=v:=by rw [mxI,hv]
 rw [RE.out]
 have RU:=zH (show (min p q,max p q)=(u,v) by rw [hu,hv])
 rw [RU.out]
 have FR:=zH (Far.refl w)
 obtain ⟨w1,hw_w1,BA,k_w1⟩:=nB w #[.int .i64 a,.int .i64 b] 280
 replace FR:=zH (FR.out.fut k_w1)
 clear k_w1
 obtain ⟨w2,hw_w2,BQ,k_w2⟩:=nB w1 #[.int .i32 m,.int .i64 s,.int .i8 z] 85
 replace FR:=zH (FR.out.fut k_w2)
 replace BA:=zH (BA.out.fut k_w2)
 clear k_w2
 have a0:=BA.out.cell 0
 have a1:=BA.out.cell 1
 have l0:=FR.out.size
 clear hx hy hp hq ha1 ha2 hb1 hb2 ix iy hm hz hlo hhi hu hv RE RU
 go_enter Tryz.func199,Tryz.ntmps199
 go_wp2_with (first|(refine lB 85 (.tmp 5) w1.heap.size BQ.out Tryz.underlying85 ?_)|(go_at_call 204;with_reducible refine (HX.out _).mono ?_;rintro e w3 ⟨rfl,hb⟩;replace FR:=zH (FR.out.fut hb);replace BQ:=zH (BQ.out.fut hb);have k3:=hb;clear hb hw_w1 hw_w2 a0;replace BA:=zH (BA.out.fut k3);have a1:=BA.out.cell 1)|(go_at_call 204;with_reducible refine (HY.out _).mono ?_;rintro e w4 ⟨rfl,hb⟩;replace FR:=zH (FR.out.fut hb);clear hb))
 go_ret2
 exact ⟨rfl,FR.out.out⟩
theorem rspanAfter_any (a b m s z lo hi:Int) (w:World) (hm:InK .i32 m) (hz:InK .i8 z) (hlo:InK .i8 lo) (hhi:InK .i8 hi) :
  Calls Tryz.prog 109 #[.int .i64 a,.int .i64 b,.agg #[.int .i32 m,.int .i64 s,.int .i8 z],.int .i8 lo,.int .i8 hi] w fun e w'=>e=.returned (.tuple #[.int .i8 (afterR (a,b) m s z lo hi).1,.int .i8 (afterR (a,b) m s z lo hi).2])∧Below w.heap.size w w':=by
 obtain ⟨x,hx⟩:∃ x,clamp32 a=x:=⟨_,rfl⟩
 obtain ⟨y,hy⟩:∃ x,clamp32 b=x:=⟨_,rfl⟩
 have ix:InK .i32 x:=by rw [← hx];exact clamp32_in a
 have iy:InK .i32 y:=by rw [← hy];exact clamp32_in b
 have HX:=zH (fun w=>rfixHeld_any x m s z lo hi w ix hm hz hlo hhi)
 have HY:=zH (fun w=>rfixHeld_any y m s z lo hi w iy hm hz hlo hhi)
 obtain ⟨p,hp⟩:∃ p,heldQ x m s z lo hi=p:=⟨_,rfl⟩
 obtain ⟨q,hq⟩:∃ p,heldQ y m s z lo hi=p:=⟨_,rfl⟩
 have RE:=zH (show afterR (a,b) m s z lo hi=(min p q,max p q) by unfold afterR;simp only;rw [hx,hy,hp,hq])
 rw [hp] at HX
 rw [hq] at HY
 obtain ⟨a1,ha1⟩:∃ u,max a (-2147483648)=u:=⟨_,rfl⟩
 obtain ⟨a2,ha2⟩:∃ u,min a1 2147483647=u:=⟨_,rfl⟩
 have ka1:(if a < -2147483648 then -2147483648 else a)=a1:=by rw [mxI',ha1]
 have ka2:(if 2147483647 < a1 then 2147483647 else a1)=a2:=by rw [mnI',ha2]
 have ka3:IntKind.i32.wrap a2=x:=by rw [← ha2,← ha1,← hx];exact clamp32_wrap a
 obtain ⟨b1,hb1⟩:∃ u,max b (-2147483648)=u:=⟨_,rfl⟩
 obtain ⟨b2,hb2⟩:∃ u,min b1 2147483647=u:=⟨_,rfl⟩
 have kb1:(if b < -2147483648 then -2147483648 else b)=b1:=by rw [mxI',hb1]
 have kb2:(if 2147483647 < b1 then 2147483647 else b1)=b2:=by rw [mnI',hb2]
 have kb3:IntKind.i32.wrap b2=y:=by rw [← hb2,← hb1,← hy];exact clamp32_wrap b
 obtain ⟨u,hu⟩:∃ u,min p q=u:=⟨_,rfl⟩
 obtain ⟨v,hv⟩:∃ u,max p q=u:=⟨_,rfl⟩
 have f3:(if q < p then q else p)=u:=by rw [mnI,hu]
 have f4:(if p < q then q else p)=v:=by rw [mxI,hv]
 rw [RE.out]
 have RU:=zH (show (min p q,max p q)=(u,v) by rw [hu,hv])
 rw [RU.out]
 have FR:=zH (Far.refl w)
 obtain ⟨w1,hw_w1,BQ,k_w1⟩:=nB w #[.int .i32 m,.int .i64 s,.int .i8 z] 85
 replace FR:=zH (FR.out.fut k_w1)
 clear k_w1
 have l0:=FR.out.size
 clear hx hy hp hq ha1 ha2 hb1 hb2 ix iy hm hz hlo hhi hu hv RE RU
 go_enter Tryz.func109,Tryz.ntmps109
 go_wp2_with (first|(refine lB 85 (.tmp 7) w.heap.size BQ.out Tryz.underlying85 ?_)|(go_at_call 149;with_reducible refine (HX.out _).mono ?_;rintro e w3 ⟨rfl,hb⟩;replace FR:=zH (FR.out.fut hb);replace BQ:=zH (BQ.out.fut hb);clear hb hw_w1)|(go_at_call 149;with_reducible refine (HY.out _).mono ?_;rintro e w4 ⟨rfl,hb⟩;replace FR:=zH (FR.out.fut hb);clear hb))
 go_ret2
 exact ⟨rfl,FR.out.out⟩
theorem rspanRow_any (A:Option Addr) (n cap:Nat) (l:List Int) (b lo hi z:Int) (gaps:Bool) (w:World) (hs:Sl (tInt .i8) w (blo w.heap.size) A n cap l) (hn:n≤16384) (hb:InK .i32 b) (hlo:InK .i8 lo) (hhi:InK .i8 hi) (hz:InK .i8 z) :
  Calls Tryz.prog 112 #[.slice A n cap,.int .i32 b,.int .i8 lo,.int .i8 hi,.int .i8 z,.bool gaps] w fun e w'=>e=.returned (.tuple #[.int .i64 (rowR b lo hi z gaps l).1,.int .i64 (rowR b lo hi z gaps l).2])∧Below w.heap.size w w':=by
 have HN:=zH hs.n_eq
 have RB:=zH (rowR_bd (gaps:=gaps) hlo hhi hz hs.allK hb)
 have MB:=zH (fun v hv=>And.intro (mul8_bd (v:=v) hv hlo hz) (mul8_bd (v:=v) hv hhi hz))
 have ON:=zH (show ∀ v,oneR lo hi z gaps v=if gaps=true then (min (min (v*(lo - z)) (v*(hi - z))) 0,max (max (v*(lo - z)) (v*(hi - z))) 0) else (min (v*(lo - z)) (v*(hi - z)),max (v*(lo - z)) (v*(hi - z))) from fun _=>rfl)
 have g1:IntKind.i64.wrap b=b:=IntWalk.i64_in _ (by rw [inK_i32] at hb;omega)
 have hs':=Old.now hs
 rw [inK_i8] at hlo hhi hz
 have g2:IntKind.i64.wrap lo=lo:=IntWalk.i64_in _ (by omega)
 have g3:IntKind.i64.wrap hi=hi:=IntWalk.i64_in _ (by omega)
 have g4:IntKind.i64.wrap z=z:=IntWalk.i64_in _ (by omega)
 obtain ⟨dl,hdl⟩:∃ x,lo - z=x:=⟨_,rfl⟩
 obtain ⟨dh,hdh⟩:∃ x,hi - z=x:=⟨_,rfl⟩
 have g5:IntKind.i64.wrap (lo - z)=dl:=by rw [← hdl];exact IntWalk.i64_in _ (by omega)
 have g6:IntKind.i64.wrap (hi - z)=dh:=by rw [← hdh];exact IntWalk.i64_in _ (by omega)
 rw [hdl,hdh] at MB ON
 have HS:=zH hs'
 have FR:=zH (Far.refl w)
 clear hs hs' hb hlo hhi hz hdl hdh
 go_enter Tryz.func112,Tryz.ntmps112
 go_wp2_with fail
 go_loopw [14,15,16] (fun u v ii wr=>∃ k:Nat,k≤n∧ii=.int .i64 k∧u=.int .i64 (rowR b lo hi z gaps (l.take k)).1∧v=.int .i64 (rowR b lo hi z gaps (l.take k)).2∧Below w.heap.size w wr) (fun _ _ ii _=>n - (intOf ii).toNat)
 case atStart=>exact ⟨0,Nat.zero_le _,rfl,rfl,rfl,FR.out.out⟩
 case round =>
  obtain ⟨k,hk,rfl,rfl,rfl,hg⟩:=hrel
  replace HS:=zH (HS.out.fut hg)
  replace FR:=zH (FR.out.fut hg)
  clear hg
  by_cases hlt:k < n
  ·have p1:(k:Int) < (n:Int):=by omega
   obtain ⟨bz,oz,rfl,-,-,cx,ix⟩:=HS.out.out.int_at k hlt
   have TS:=zH (take_snoc l k (l.getD k 0) (by rw [List.getD_eq_getElem?_getD,List.getElem?_eq_getElem (by have:=HN.out;omega)];rfl))
   have rb:=RB.out k (by have:=HN.out;omega)
   have rb2:=RB.out (k+1) (by have:=HN.out;omega)
   rw [TS.out] at rb2
   obtain ⟨x,hx⟩:∃ x,l.getD k 0=x:=⟨_,rfl⟩
   rw [hx] at cx ix TS rb2
   have OS:=zH (rowR_snoc b lo hi z gaps (l.take k) x)
   rw [OS.out] at rb2
   have mb:=MB.out x ix
   have on:=ON.out x
   obtain ⟨⟨o1,o2⟩,ho⟩:∃ r,oneR lo hi z gaps x=r:=⟨_,rfl⟩
   rw [ho] at OS rb2 on
   obtain ⟨⟨p,q⟩,hpq⟩:∃ r,rowR b lo hi z gaps (l.take k)=r:=⟨_,rfl⟩
   rw [hpq] at OS rb rb2
   rw [hpq]
   simp only at OS rb rb2 ⊢
   obtain ⟨u,hu⟩:∃ r,x*dl=r:=⟨_,rfl⟩
   obtain ⟨v,hv⟩:∃ r,x*dh=r:=⟨_,rfl⟩
   rw [hu,hv] at mb on
   have e1:IntKind.i64.wrap x=x:=IntWalk.i64_in _ (by rw [inK_i8] at ix;omega)
   have e2:IntKind.i64.wrap (x*dl)=u:=by rw [hu];exact IntWalk.i64_in _ (by omega)
   have e3:IntKind.i64.wrap (x*dh)=v:=by rw [hv];exact IntWalk.i64_in _ (by omega)
   obtain ⟨p',hp'⟩:∃ r,p+o1=r:=⟨_,rfl⟩
   obtain ⟨q',hq'⟩:∃ r,q+o2=r:=⟨_,rfl⟩
   have f1:IntKind.i64.wrap (p+o1)=p':=by rw [hp'];exact IntWalk.i64_in _ (by omega)
   have f2:IntKind.i64.wrap (q+o2)=q':=by rw [hq'];exact IntWalk.i64_in _ (by omega)
   rw [hp',hq'] at OS
   obtain ⟨m1,hm1⟩:∃ r,min u v=r:=⟨_,rfl⟩
   obtain ⟨m2,hm2⟩:∃ r,max u v=r:=⟨_,rfl⟩
   have mm:m1≤m2:=by omega
   have h1:(if v < u then v else u)=m1:=by rw [mnI,hm1]
   have h2:(if u < v then v else u)=m2:=by rw [mxI,hm2]
   rw [hm1,hm2] at on
   clear hx hpq hu hv hp' hq' rb rb2 mb ho hm1 hm2
   go_wp2_with fail
   go_quiet (fail)
   obtain ⟨wq,hwq⟩:∃ m,wr.drewN nq=m:=⟨_,rfl⟩
   have kd:Below wr.heap.size wr wq:=by rw [← hwq];exact below_drewN (Below.refl _ _) _
   replace FR:=zH (FR.out.fut kd)
   clear cx kd
   rw [hwq]
   clear hwq
   cases gaps with
   | false =>
    rw [if_neg (by decide)] at on
    injection on with on1 on2
    subst on1 on2
    go_wp2_with fail
    exact ⟨⟨k+1,by omega,by go_num,by rw [TS.out,OS.out],by rw [TS.out,OS.out],FR.out.out⟩,by simp [intOf];omega⟩
   | true =>
    rw [if_pos rfl] at on
    injection on with on1 on2
    have h3:(if 0 < m1 then 0 else m1)=o1:=by rw [mnI,← on1]
    have h4:(if m2 < 0 then 0 else m2)=o2:=by rw [mxI,← on2]
    clear on1 on2
    go_wp2_with fail
    exact ⟨⟨k+1,by omega,by go_num,by rw [TS.out,OS.out],by rw [TS.out,OS.out],FR.out.out⟩,by simp [intOf];omega⟩
  ·obtain rfl:k=n:=by omega
   have e:=HN.out
   rw [List.take_of_length_le (by omega)]
   go_wp2_with fail
   go_ret2
   exact ⟨rfl,FR.out.out⟩
theorem ends_int (a:Int) (A:Option Addr) (n cap:Nat) (l:List Int) (w:World) (hs:Sl (tInt .i64) w (blo w.heap.size) A n cap l) :
  Calls Tryz.prog 164 #[.int .i64 a,.slice A n cap] w fun e w'=>e=.returned (.tuple #[.int .i64 (ofR a l).1,.int .i64 (ofR a l).2])∧w=w':=by
 have hmax:n≤9223372036854775807:=Nat.le_trans hs.cap_le hs.max_le
 have HN:=zH hs.n_eq
 have HS:=zH hs
 clear hs
 go_enter Tryz.func164,Tryz.ntmps164
 go_wp2_with fail
 go_loopw [6,7,14] (fun u v ii wr=>∃ k:Nat,k≤n∧ii=.int .i64 k∧u=.int .i64 (ofR a (l.take k)).1∧v=.int .i64 (ofR a (l.take k)).2∧w=wr) (fun _ _ ii _=>n - (intOf ii).toNat)
 case atStart=>exact ⟨0,Nat.zero_le _,rfl,rfl,rfl,rfl⟩
 case round =>
  obtain ⟨k,hk,rfl,rfl,rfl,rfl⟩:=hrel
  by_cases hlt:k < n
  ·have p1:(k:Int) < (n:Int):=by omega
   obtain ⟨bz,oz,rfl,-,-,cx,-⟩:=HS.out.int_at k hlt
   have TS:=zH (take_snoc l k (l.getD k 0) (by rw [List.getD_eq_getElem?_getD,List.getElem?_eq_getElem (by have:=HN.out;omega)];rfl))
   obtain ⟨x,hx⟩:∃ x,l.getD k 0=x:=⟨_,rfl⟩
   rw [hx] at cx TS
   have OS:=zH (ofR_snoc a (l.take k) x)
   obtain ⟨⟨p,q⟩,hpq⟩:∃ r,ofR a (l.take k)=r:=⟨_,rfl⟩
   rw [hpq] at OS
   simp only [hpq] at OS ⊢
   obtain ⟨p',hp'⟩:∃ r,min p x=r:=⟨_,rfl⟩
   obtain ⟨q',hq'⟩:∃ r,max q x=r:=⟨_,rfl⟩
   have mn:(if x < p then x else p)=p':=by rw [mnI,hp']
   have mx:(if q < x then x else q)=q':=by rw [mxI,hq']
   rw [hp',hq'] at OS
   clear hx hpq hp' hq'
   go_wp2_with fail
   exact ⟨⟨k+1,by omega,by go_num,by rw [TS.out,OS.out],by rw [TS.out,OS.out],by trivial⟩,by simp [intOf];omega⟩
  ·obtain rfl:k=n:=by omega
   have e:=HN.out
   rw [List.take_of_length_le (by omega)]
   go_wp2_with fail
   go_ret2
   exact ⟨rfl,by trivial⟩
theorem ends_int8 (a:Int) (A:Option Addr) (n cap:Nat) (l:List Int) (w:World) (hs:Sl (tInt .i8) w (blo w.heap.size) A n cap l) :
  Calls Tryz.prog 205 #[.int .i8 a,.slice A n cap] w fun e w'=>e=.returned (.tuple #[.int .i8 (ofR a l).1,.int .i8 (ofR a l).2])∧w=w':=by
 have hmax:n≤9223372036854775807:=Nat.le_trans hs.cap_le hs.max_le
 have HN:=zH hs.n_eq
 have HS:=zH hs
 clear hs
 go_enter Tryz.func205,Tryz.ntmps205
 go_wp2_with fail
 go_loopw [6,7,14] (fun u v ii wr=>∃ k:Nat,k≤n∧ii=.int .i64 k∧u=.int .i8 (ofR a (l.take k)).1∧v=.int .i8 (ofR a (l.take k)).2∧w=wr) (fun _ _ ii _=>n - (intOf ii).toNat)
 case atStart=>exact ⟨0,Nat.zero_le _,rfl,rfl,rfl,rfl⟩
 case round =>
  obtain ⟨k,hk,rfl,rfl,rfl,rfl⟩:=hrel
  by_cases hlt:k < n
  ·have p1:(k:Int) < (n:Int):=by omega
   obtain ⟨bz,oz,rfl,-,-,cx,-⟩:=HS.out.int_at k hlt
   have TS:=zH (take_snoc l k (l.getD k 0) (by rw [List.getD_eq_getElem?_getD,List.getElem?_eq_getElem (by have:=HN.out;omega)];rfl))
   obtain ⟨x,hx⟩:∃ x,l.getD k 0=x:=⟨_,rfl⟩
   rw [hx] at cx TS
   have OS:=zH (ofR_snoc a (l.take k) x)
   obtain ⟨⟨p,q⟩,hpq⟩:∃ r,ofR a (l.take k)=r:=⟨_,rfl⟩
   rw [hpq] at OS
   simp only [hpq] at OS ⊢
   obtain ⟨p',hp'⟩:∃ r,min p x=r:=⟨_,rfl⟩
   obtain ⟨q',hq'⟩:∃ r,max q x=r:=⟨_,rfl⟩
   have mn:(if x < p then x else p)=p':=by rw [mnI,hp']
   have mx:(if q < x then x else q)=q':=by rw [mxI,hq']
   rw [hp',hq'] at OS
   clear hx hpq hp' hq'
   go_wp2_with fail
   exact ⟨⟨k+1,by omega,by go_num,by rw [TS.out,OS.out],by rw [TS.out,OS.out],by trivial⟩,by simp [intOf];omega⟩
  ·obtain rfl:k=n:=by omega
   have e:=HN.out
   rw [List.take_of_length_le (by omega)]
   go_wp2_with fail
   go_ret2
   exact ⟨rfl,by trivial⟩
theorem upside_any (lo hi:Int) (w:World) :
  Calls Tryz.prog 132 #[.agg #[.int .i8 lo,.int .i8 hi]] w fun e w'=>e=.returned (.bool (decide (hi < lo)))∧Below w.heap.size w w':=by
 have FR:=zH (Far.refl w)
 obtain ⟨w1,hw_w1,BR,k_w1⟩:=nB w #[.int .i8 lo,.int .i8 hi] 196
 replace FR:=zH (FR.out.fut k_w1)
 clear k_w1
 have c0:=BR.out.cell 0
 have c1:=BR.out.cell 1
 go_enter Tryz.func132,Tryz.ntmps132
 go_wp2_with fail
 go_ret
 exact ⟨rfl,FR.out.out⟩
theorem over_any (a:Int) (A:Option Addr) (n cap:Nat) (l:List Int) (w:World) (hs:Sl (tInt .i8) w (blo w.heap.size) A n cap l) :
  Calls Tryz.prog 184 #[.int .i8 a,.slice A n cap] w fun e w'=>e=.returned (.agg #[.int .i8 (ofR a l).1,.int .i8 (ofR a l).2])∧Below w.heap.size w w':=by
 have HS:=zH (Old.now hs)
 have FR:=zH (Far.refl w)
 obtain ⟨w1,hw_w1,BR,k_w1⟩:=nB w #[.int .i8 0,.int .i8 0] 196
 replace FR:=zH (FR.out.fut k_w1)
 clear k_w1
 have l1:w.heap.size < w1.heap.size:=by rw [← hw_w1];simp
 clear hs
 go_enter Tryz.func184,Tryz.ntmps184
 go_wp2_with (first|(go_at_call 205;refine (ends_int8 a A n cap l _ (HS.out.fut FR.out.out).all).mono ?_;rintro e w2 ⟨rfl,rfl⟩;clear hw_w1)|(refine sB 196 (.tmp 4) (.tmp 15) w.heap.size #[.int .i8 (ofR a l).1,.int .i8 (ofR a l).2] BR.out ?_;intro w3 B3 g3))
 refine ret_cell rfl B3 rfl Tryz.underlying196 (by kernel_rfl) rfl ?_
 exact ⟨rfl,(FR.out.away g3 (by omega)).out⟩
def sumsR (d:Node) (lo hi:Int):(Int × Int) × Int :=
 if holdsR (allR d.w d.bias lo hi d.za (decide (0 < d.p)))=true then (afterR (bothR (allR d.w d.bias lo hi d.za (decide (0 < d.p)))) d.qm d.qs d.qz d.lo d.hi,0) else ((0,0),10)
theorem sumsR_in (d:Node) (lo hi:Int):InK .i8 (sumsR d lo hi).1.1∧InK .i8 (sumsR d lo hi).1.2:=by
 unfold sumsR
 split
 ·exact afterR_in _ _ _ _ _ _
 ·exact ⟨by decide,by decide⟩
def RetR (x:(Int × Int) × Int) (w:World) (e:Ending) (w':World):Prop:=e=.returned (.tuple #[.agg #[.int .i8 x.1.1,.int .i8 x.1.2],.int .i64 x.2])∧Below w.heap.size w w'
theorem summed_any (d:Node) (W:Option Addr) (nw cw:Nat) (B:Option Addr) (nb cb:Nat) (lo hi:Int) (w:World) (hw:Sl (tInt .i8) w (blo w.heap.size) W nw cw d.w) (hb:Sl (tInt .i32) w (blo w.heap.size) B nb cb d.bias) (hd:NodeIn d)
  (hlo:InK .i8 lo) (hhi:InK .i8 hi) (mw:nw≤16384) (mb:nb≤16384) (hw1:1≤nw) :
  Calls Tryz.prog 181 #[.agg (nN d.kind d.a d.b d.k d.s d.p d.out d.za d.zb W nw cw B nb cb d.qm d.qs d.qz d.rm d.rs d.rz d.lo d.hi),.agg #[.int .i8 lo,.int .i8 hi]] w (RetR (sumsR d lo hi) w):=by
 have AL:=zH (fun w hw hb=>spanAll_any d W nw cw B nb cb lo hi w hw hb hd.za hlo hhi mw mb hw1)
 have HB:=zH (Old.now hb)
 have HW:=zH (Old.now hw)
 have FR:=zH (Far.refl w)
 have AF:=zH (fun a b w=>spanAfter_any a b d.qm d.qs d.qz d.lo d.hi w hd.qm hd.qz hd.lo hd.hi)
 obtain ⟨r,hr⟩:∃ r,sumsR d lo hi=r:=⟨_,rfl⟩
 rw [hr]
 unfold sumsR at hr
 obtain ⟨L,hL⟩:∃ L,allR d.w d.bias lo hi d.za (decide (0 < d.p))=L:=⟨_,rfl⟩
 rw [hL] at AL hr
 have VV:=zH hr.symm
 clear hw hb hd hlo hhi hr hL
 obtain ⟨w1,hw_w1,BN,k_w1⟩:=nB w (nN d.kind d.a d.b d.k d.s d.p d.out d.za d.zb W nw cw B nb cb d.qm d.qs d.qz d.rm d.rs d.rz d.lo d.hi) 87
 replace FR:=zH (FR.out.fut k_w1)
 clear k_w1
 obtain ⟨w2,hw_w2,BA,k_w2⟩:=nB w1 #[.int .i8 lo,.int .i8 hi] 196
 replace FR:=zH (FR.out.fut k_w2)
 replace BN:=zH (BN.out.fut k_w2)
 clear k_w2
 obtain ⟨w3,hw_w3,BR,k_w3⟩:=nB w2 #[.int .i8 0,.int .i8 0] 196
 replace FR:=zH (FR.out.fut k_w3)
 replace BN:=zH (BN.out.fut k_w3)
 replace BA:=zH (BA.out.fut k_w3)
 clear k_w3
 have l1:w.heap.size < w1.heap.size:=by rw [← hw_w1];simp
 have l2:w1.heap.size < w2.heap.size:=by rw [← hw_w2];simp
 have l3:w2.heap.size < w3.heap.size:=by rw [← hw_w3];simp
 have a0:=BA.out.cell 0
 have a1:=BA.out.cell 1
 go_enter Tryz.func181,Tryz.ntmps181
 go_wp2_with (refine lB 87 (.tmp 2) w.heap.size BN.out Tryz.underlying87 ?_)
 clear hw_w1 hw_w2 hw_w3 a0 a1
 refine (AL.out _ (HW.out.fut FR.out.out).all (HB.out.fut FR.out.out).all).mono ?_
 rintro e w4 ⟨A2,n2,c2,rfl,s2,hb⟩
 have S2:=zH (Old.now s2.old)
 clear s2 AL
 replace FR:=zH (FR.out.fut hb)
 replace BN:=zH (BN.out.fut hb)
 replace BA:=zH (BA.out.fut hb)
 replace BR:=zH (BR.out.fut hb)
 clear hb
 obtain ⟨ok,hok⟩:∃ b,holdsR L=b:=⟨_,rfl⟩
 have HO:=zH (fun w hs=>spanHolds_any A2 n2 c2 L w hs)
 rw [hok] at HO VV
 cases ok with
 | false =>
  rw [if_neg (by decide)] at VV
  go_wp2_with (first|(go_at_call 167;refine (HO.out _ S2.out.all).mono ?_;rintro e w5 ⟨rfl,hb⟩;replace FR:=zH (FR.out.fut hb);replace BR:=zH (BR.out.fut hb);clear hb)|(refine sB 196 (.tmp 4) (.tmp 18) w2.heap.size #[.int .i8 0,.int .i8 0] BR.out ?_;intro w6 B6 g6))
  refine rC B6 Tryz.underlying196 ?_
  exact ⟨by rw [VV.out];rfl,(FR.out.away g6 (by omega)).out⟩
 | true =>
  rw [if_pos rfl] at VV
  go_wp2_with (go_at_call 167;refine (HO.out _ S2.out.all).mono ?_;rintro e w5 ⟨rfl,hb⟩;replace FR:=zH (FR.out.fut hb);replace BR:=zH (BR.out.fut hb);replace BN:=zH (BN.out.fut hb);replace S2:=zH (S2.out.fut hb);clear hb)
  have E1:=zH (fun x:Ext w5=>calls_ext x (spanBoth_any A2 n2 c2 L x.1 (S2.out.all.later x.2 (Nat.le_refl _))))
  obtain ⟨⟨p,q⟩,hpq⟩:∃ r,bothR L=r:=⟨_,rfl⟩
  rw [hpq] at E1 VV
  simp only at E1
  have E2:=zH (fun x:Ext w5=>calls_ext x (AF.out p q x.1))
  have AI:=zH (afterR_in (p,q) d.qm d.qs d.qz d.lo d.hi)
  obtain ⟨⟨u,v⟩,huv⟩:∃ r,afterR (p,q) d.qm d.qs d.qz d.lo d.hi=r:=⟨_,rfl⟩
  rw [huv] at E2 VV AI
  simp only at E2
  have R1:=zH (fun x:Ext w5=>range_blk (off:=11) (vs:=[.int .i32 d.qm,.int .i64 d.qs,.int .i8 d.qz]) (BN.out.ext x) rfl)
  have d17:∀ x:Ext w5,x.1.cell? ⟨w.heap.size,17,none⟩=some (.int .i8 d.lo):=fun x=>(BN.out.ext x).cell 17
  have d18:∀ x:Ext w5,x.1.cell? ⟨w.heap.size,18,none⟩=some (.int .i8 d.hi):=fun x=>(BN.out.ext x).cell 18
  clear hpq huv HO AF
  refine wp_region_ext w5 (by kernel_rfl) (by kernel_rfl) (Below.refl _ _) ?_
  go_big_quiet_step (first|exact E1.out _)
  go_big_quiet_step (first|exact E1.out _)
  go_big_quiet_step (first|exact E1.out _)
  refine wpQuiet_load_mid (by kernel_rfl) 85 (.tmp 22) rfl w.heap.size 11 rfl _ _ (by rintro _ ⟨x,rfl⟩;exact R1.out x) Tryz.underlying85 rfl (by kernel_rfl) ?_
  simp only [pX]
  repeat (go_big_quiet_step (exact E2.out _))
  refine wpQuiet_nil ?_
  rintro _ ⟨⟨wa,hba⟩,rfl⟩
  replace FR:=zH (FR.out.fut hba)
  replace BR:=zH (BR.out.fut hba)
  clear hba E1 E2 R1 d17 d18
  go_wp2_with (refine sB 196 (.tmp 4) (.tmp 33) w2.heap.size #[.int .i8 u,.int .i8 v] BR.out ?_;intro w6 B6 g6)
  refine rC B6 Tryz.underlying196 ?_
  exact ⟨by rw [VV.out];rfl,(FR.out.away g6 (by omega)).out⟩
end Go.Proofs.YtppcjcigekoipaaGreat
namespace Go.Proofs.YtppcjcigekoipaaGreat
open Go.RowKit Go.ChangeShapes Go.WideShapes Fx
set_option maxRecDepth 100000
set_option maxHeartbeats 4000000
def oneV (d:Node) (x:Int):Int:=heldQ (x - d.za) d.qm d.qs d.qz d.lo d.hi
theorem oneV_in (d:Node) (x:Int):InK .i8 (oneV d x):=heldQ_in _ _ _ _ _ _
theorem actOne_any (x:Int) (d:Node) (W:Option Addr) (nw cw:Nat) (B:Option Addr) (nb cb:Nat) (w:World) (hx:InK .i8 x) (hd:NodeIn d) :
  Calls Tryz.prog 183 #[.int .i8 x,.agg (nN d.kind d.a d.b d.k d.s d.p d.out d.za d.zb W nw cw B nb cb d.qm d.qs d.qz d.rm d.rs d.rz d.lo d.hi)] w fun e w'=>e=.returned (.int .i8 (oneV d x))∧Below w.heap.size w w':=by
 have hz:=hd.za
 have HX:=hx
 rw [inK_i8] at hx hz
 obtain ⟨x1,x2⟩:=hx
 obtain ⟨z1,z2⟩:=hz
 have FR:=zH (Far.refl w)
 obtain ⟨w1,hw_w1,BN,k_w1⟩:=nB w (nN d.kind d.a d.b d.k d.s d.p d.out d.za d.zb W nw cw B nb cb d.qm d.qs d.qz d.rm d.rs d.rz d.lo d.hi) 87
 replace FR:=zH (FR.out.fut k_w1)
 clear k_w1
 have HE:=zH (fun w=>fixHeld_any (x - d.za) d.qm d.qs d.qz d.lo d.hi w (by rw [inK_i32];omega) hd.qm hd.qz hd.lo hd.hi)
 have d7:=BN.out.cell 7
 have d17:=BN.out.cell 17
 have d18:=BN.out.cell 18
 unfold oneV
 clear hd HX
 go_enter Tryz.func183,Tryz.ntmps183
 go_wp2_with (first|(refine wpList_load_blk rfl 85 (.tmp 11) rfl w.heap.size 11 rfl _ (nN d.kind d.a d.b d.k d.s d.p d.out d.za d.zb W nw cw B nb cb d.qm d.qs d.qz d.rm d.rs d.rz d.lo d.hi) #[.int .i32 d.qm,.int .i64 d.qs,.int .i8 d.qz] _ BN.out Tryz.underlying85 rfl (by kernel_rfl) rfl ?_)|(go_at_call 204;refine (HE.out _).mono ?_;rintro e w2 ⟨rfl,hb⟩))
 go_ret
 exact ⟨rfl,(FR.out.fut hb).out⟩
theorem ractOne_any (x:Int) (d:Node) (W:Option Addr) (nw cw:Nat) (B:Option Addr) (nb cb:Nat) (w:World) (hx:InK .i8 x) (hd:NodeIn d) :
  Calls Tryz.prog 111 #[.int .i8 x,.agg (nN d.kind d.a d.b d.k d.s d.p d.out d.za d.zb W nw cw B nb cb d.qm d.qs d.qz d.rm d.rs d.rz d.lo d.hi)] w fun e w'=>e=.returned (.int .i8 (oneV d x))∧Below w.heap.size w w':=by
 have hz:=hd.za
 have HX:=hx
 rw [inK_i8] at hx hz
 obtain ⟨x1,x2⟩:=hx
 obtain ⟨z1,z2⟩:=hz
 have FR:=zH (Far.refl w)
 obtain ⟨w1,hw_w1,BN,k_w1⟩:=nB w (nN d.kind d.a d.b d.k d.s d.p d.out d.za d.zb W nw cw B nb cb d.qm d.qs d.qz d.rm d.rs d.rz d.lo d.hi) 87
 replace FR:=zH (FR.out.fut k_w1)
 clear k_w1
 have HE:=zH (fun w=>rfixHeld_any (x - d.za) d.qm d.qs d.qz d.lo d.hi w (by rw [inK_i32];omega) hd.qm hd.qz hd.lo hd.hi)
 have d7:=BN.out.cell 7
 have d17:=BN.out.cell 17
 have d18:=BN.out.cell 18
 unfold oneV
 clear hd HX
 go_enter Tryz.func111,Tryz.ntmps111
 go_wp2_with (first|(refine wpList_load_blk rfl 85 (.tmp 11) rfl w.heap.size 11 rfl _ (nN d.kind d.a d.b d.k d.s d.p d.out d.za d.zb W nw cw B nb cb d.qm d.qs d.qz d.rm d.rs d.rz d.lo d.hi) #[.int .i32 d.qm,.int .i64 d.qs,.int .i8 d.qz] _ BN.out Tryz.underlying85 rfl (by kernel_rfl) rfl ?_)|(go_at_call 149;refine (HE.out _).mono ?_;rintro e w2 ⟨rfl,hb⟩))
 go_ret
 exact ⟨rfl,(FR.out.fut hb).out⟩
end Go.Proofs.YtppcjcigekoipaaGreat
namespace Go.Proofs.YtppcjcigekoipaaGreat
open Go.RowKit Go.ChangeShapes Go.WideShapes
set_option maxRecDepth 100000
theorem rkshape_any (h v c h2 v2 c2:Int) (d:Node) (W:Option Addr) (nw cw:Nat) (B:Option Addr) (nb cb:Nat) (w:World) (i0:InK .i64 h) (i1:InK .i64 v) (i2:InK .i64 c) (hout:InK .i64 d.out) (hp:InK .i64 d.p) (hnw:nw=d.w.length) (hnb:nb=d.bias.length) (mw:nw≤1048576) (mb:nb≤1048576) (hk:1≤d.kind∧d.kind≤9) :
  Calls Tryz.prog 51 #[.agg (nN d.kind d.a d.b d.k d.s d.p d.out d.za d.zb W nw cw B nb cb d.qm d.qs d.qz d.rm d.rs d.rz d.lo d.hi),.agg (sN h v c),.agg (sN h2 v2 c2)] w fun e w'=>e=retS (shapeV h v c h2 v2 c2 d)∧Below w.heap.size w w':=by
 rcases (show d.kind=1 ∨ d.kind=2 ∨ d.kind=3 ∨ d.kind=4 ∨ d.kind=5 ∨ d.kind=6 ∨ d.kind=7 ∨ d.kind=8 ∨ d.kind=9 by omega) with e|e|e|e|e|e|e|e|e
 ·exact rkshape_any_1 h v c h2 v2 c2 d W nw cw B nb cb w i0 i1 i2 hout hp hnw hnb mw mb e
 ·exact rkshape_any_2 h v c h2 v2 c2 d W nw cw B nb cb w i0 i1 i2 hout hp hnw hnb mw mb e
 ·exact rkshape_any_3 h v c h2 v2 c2 d W nw cw B nb cb w i0 i1 i2 hout hp hnw hnb mw mb e
 ·exact rkshape_any_4 h v c h2 v2 c2 d W nw cw B nb cb w i0 i1 i2 hout hp hnw hnb mw mb e
 ·exact rkshape_any_5 h v c h2 v2 c2 d W nw cw B nb cb w i0 i1 i2 hout hp hnw hnb mw mb e
 ·exact rkshape_any_6 h v c h2 v2 c2 d W nw cw B nb cb w i0 i1 i2 hout hp hnw hnb mw mb e
 ·exact rkshape_any_7 h v c h2 v2 c2 d W nw cw B nb cb w i0 i1 i2 hout hp hnw hnb mw mb e
 ·exact rkshape_any_8 h v c h2 v2 c2 d W nw cw B nb cb w i0 i1 i2 hout hp hnw hnb mw mb e
 ·exact rkshape_any_9 h v c h2 v2 c2 d W nw cw B nb cb w i0 i1 i2 hout hp hnw hnb mw mb e
end Go.Proofs.YtppcjcigekoipaaGreat
