/-
  What a call may write besides new memory: the blocks of a set.
-/
import Derived.Test.YtlbkekabmpienaaGreatJ00
namespace Go.Proofs.YtlbkekabmpienaaGreat
set_option linter.unusedVariables false
set_option linter.unusedSimpArgs false
open Go.RowKit Go.ChangeShapes Go.WideShapes
/-- From one world to a later one, where of the old blocks those of X alone may be written. -/
structure But (X:Nat → Prop) (w w':World):Prop where
 os:w'.os=w.os
 tape:w'.tape=w.tape
 output:w'.output=w.output
 size:w.heap.size≤w'.heap.size
 block:∀ k,k < w.heap.size → ¬ X k → w'.heap[k]?=w.heap[k]?
section
variable {X Y:Nat → Prop} {w w1 w2:World}
theorem But.refl (X:Nat → Prop) (w:World):But X w w:=⟨rfl,rfl,rfl,Nat.le_refl _,fun _ _ _=>rfl⟩
theorem But.trans (h:But X w w1) (h':But X w1 w2):But X w w2 :=
 ⟨h'.os.trans h.os,h'.tape.trans h.tape,h'.output.trans h.output,Nat.le_trans h.size h'.size,fun k hk hx=>(h'.block k (Nat.lt_of_lt_of_le hk h.size) hx).trans (h.block k hk hx)⟩
theorem But.mono (h:But X w w1) (hX:∀ k,X k → Y k):But Y w w1:=⟨h.os,h.tape,h.output,h.size,fun k hk hx=>h.block k hk fun c=>hx (hX k c)⟩
theorem But.of_below (h:Below w.heap.size w w1):But X w w1:=⟨h.os,h.tape,h.output,h.size,fun k hk _=>h.block k hk⟩
theorem But.set (h:But X w w1) (p:Addr) (u:Value) (hp:X p.block):But X w (w1.setCell p u) :=
 have b0:Below 0 w1 (w1.setCell p u):=(Below.refl 0 w1).setCell (Nat.zero_le _) u
 h.trans ⟨b0.os,b0.tape,b0.output,b0.size,fun k hk hx=>Below.heap_setCell w1 p u k (fun e=>hx (by rw [e];exact hp))⟩
/-- Of two steps: what the second writes is new, or may be written. -/
theorem But.step (h:But X w w1) (h':But Y w1 w2) (hY:∀ k,k < w.heap.size → Y k → X k):But X w w2 :=
 ⟨h'.os.trans h.os,h'.tape.trans h.tape,h'.output.trans h.output,Nat.le_trans h.size h'.size,fun k hk hx=>(h'.block k (Nat.lt_of_lt_of_le hk h.size) fun c=>hx (hY k hk c)).trans (h.block k hk hx)⟩
theorem But.later (h:But X w w1) (hb:Below w1.heap.size w1 w2):But X w w2:=h.trans (.of_below hb)
theorem But.far (h:But X w w1) (hX:∀ k,k < w.heap.size → ¬ X k):Below w.heap.size w w1:=⟨h.os,h.tape,h.output,h.size,fun k hk=>h.block k hk (hX k hk)⟩
/-- Only new blocks are written since a call began. -/
theorem But.since {w0:World} (h:But X w w1) (f:Far w0 w) (hX:∀ k,X k → w0.heap.size≤k):Far w0 w1 :=
 ⟨⟨h.os.trans f.out.os,h.tape.trans f.out.tape,h.output.trans f.out.output,Nat.le_trans f.out.size h.size,fun k hk=>(h.block k (Nat.lt_of_lt_of_le hk f.out.size) fun c=>by have:=hX k c;omega).trans (f.out.block k hk)⟩⟩
theorem Blk.but {g:Nat} {e:TypeId} {cs:Array Value} (h:Blk w g e cs) (b:But X w w1) (hg:¬ X g):Blk w1 g e cs:=⟨(b.block g h.lt hg).trans h.heap⟩
theorem Sl.but {α:Type} {t:Ty α} {A:Option Addr} {n cap:Nat} {l:List α} (h:Sl t w (fun x=>x < w.heap.size∧¬ X x) A n cap l) (b:But X w w1):Sl t w1 (fun x=>x < w1.heap.size∧¬ X x) A n cap l :=
 (h.keep fun k hk=>b.block k hk.1 hk.2).more fun k hk=>⟨Nat.lt_of_lt_of_le hk.1 b.size,hk.2⟩
end
/-- One block alone. -/
def one (g:Nat):Nat → Prop:=fun k=>k=g
theorem Blk.row {w w':World} {g:Nat} {e:TypeId} {cs:Array Value} {row:Option Nat} (h:Blk w g e cs) (hg:w.grownBy w' row) (hne:some g ≠ row):Blk w' g e cs:=⟨(hg.block g h.lt hne).trans h.heap⟩
theorem But.grown {w w1:World} {g:Nat} (h:But (one g) w w1):w.grownBy w1 (some g):=⟨h.os,h.tape,h.output,h.size,fun k hk hx=>h.block k hk fun e=>hx (by rw [e])⟩
end Go.Proofs.YtlbkekabmpienaaGreat
