/-
  A tensor handed back whose numbers may be written (for the law RunAgain).
-/
import Derived.Test.YtlbkekabmpienaaGreatJ01
import Derived.Test.YtlbkekabmpienaaGreatJ00
namespace Go.Proofs.YtlbkekabmpienaaGreat
open Go.RowKit
set_option linter.unusedVariables false
set_option linter.unusedSimpArgs false
/-- The first n cells of a slice may be written. -/
def Un (w:World) (A:Option Addr) (n:Nat):Prop:=∀ p,A=some p → ∀ i,i < n → w.frozen? ⟨p.block,p.off+i,none⟩=false
def RetW (k:IntKind) (x:Tensor) (code:Int) (w:World) (e:Ending) (w':World):Prop :=
 ∃ A n cap,e=.returned (.tuple #[.agg #[.int .i64 x.h,.int .i64 x.v,.int .i64 x.c,.slice A n cap],.int .i64 code])∧Sl (tInt k) w' (bin w.heap.size w'.heap.size) A n cap x.data∧Below w.heap.size w w'∧Un w' A n
def RetSW (k:IntKind) (w:World) (l:List Int) (e:Ending) (w':World):Prop :=
 ∃ A n cap,e=.returned (.slice A n cap)∧Sl (tInt k) w' (bin w.heap.size w'.heap.size) A n cap l∧Below w.heap.size w w'∧Un w' A n
theorem Un.none (w:World) (n:Nat):Un w .none n:=fun p h=>by cases h
theorem RetW.none {k:IntKind} {code:Int} {w w':World} (hb:Below w.heap.size w w'):RetW k noTensor code w (.returned (.tuple #[.agg #[.int .i64 0,.int .i64 0,.int .i64 0,.slice none 0 0],.int .i64 code])) w' :=
 ⟨Option.none,0,0,rfl,Sl.nil _ _ _,hb,Un.none _ _⟩
theorem own_un {k:IntKind} {w:World} {S:Nat → Prop} {base n cap:Nat} {E:TypeId} {A:Option Addr} {l:List Int} (h:Own (tInt k) w S base E (.slice A n cap) n l):Un w A n:=by
 obtain ⟨vs,h1,-⟩:=h.out
 intro p hp i _
 rcases h1.2 with ⟨e,-⟩|⟨g,c,cur,e,-,hh,-⟩
 ·injection e with e
  rw [hp] at e
  cases e
 ·injection e with e
  rw [hp] at e
  injection e with e
  subst e
  simp [World.frozen?,hh]
theorem un_keep {k:IntKind} {w w':World} {S:Nat → Prop} {n cap:Nat} {A:Option Addr} {l:List Int} (h:Sl (tInt k) w S A n cap l) (u:Un w A n) (hk:∀ b,S b → w'.heap[b]?=w.heap[b]?):Un w' A n:=by
 intro p hp i hi
 obtain ⟨b,o,e,hb,-⟩:=h.int_at i hi
 rw [hp] at e
 injection e with e
 subst e
 rw [World.frozen?_of_block (hk _ hb)]
 exact u _ hp i hi
theorem un_away {k:IntKind} {w0 w w':World} {n cap g:Nat} {A:Option Addr} {l:List Int} (h:New w0 (tInt k) w A n cap l) (u:Un w A n) (hg:w.grownBy w' (some g)) (hlt:g < w0.heap.size):Un w' A n :=
 un_keep h.out u fun b hb=>hg.block b hb.2 (fun e=>by have:=hb.1;injection e with e;omega)
end Go.Proofs.YtlbkekabmpienaaGreat
