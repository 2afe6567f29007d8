/-
  clone8_any, told with cells that may be written (for the law RunAgain).
-/
import Derived.Test.YtlbkekabmpienaaGreatJ15
import Derived.Test.YtlbkekabmpienaaGreatKA00
import Derived.Test.YtlbkekabmpienaaGreatJ00
import Derived.Test.YtlbkekabmpienaaGreatJ06
import Derived.Test.YtlbkekabmpienaaGreatJ01
namespace Go.Proofs.YtlbkekabmpienaaGreat
set_option linter.unusedVariables false
set_option linter.unusedSimpArgs false
open Go.RowKit Go.ChangeShapes Go.WideShapes
set_option maxRecDepth 100000
theorem clone8_anyW (A:Option Addr) (n c:Nat) (l:List Int) (w:World) (h:Sl (tInt .i8) w (blo w.heap.size) A n c l) (hn:n≤140737488351232) :
  Calls Tryz.prog 62 #[.slice A n c] w (RetSW .i8 w l):=by
 cases A with
 | none =>
  have hc:=h.nil_ rfl
  have hm:=h.cap_le
  obtain rfl:c=0:=hc
  obtain rfl:n=0:=by omega
  obtain rfl:l=[]:=List.length_eq_zero_iff.1 h.n_eq
  clear h
  have q0:=fun w=>Lib.run_eql_slice_nil (P:=Tryz.prog) w 23 22 none 0 0 0 0 Tryz.underlying23
  simp only [Option.isNone_none] at q0
  go_enter Tryz.func62,Tryz.ntmps62
  go_wp2_with fail
  go_ret
  exact ⟨none,0,0,rfl,Sl.nil _ _ _,Below.refl _ _,Un.none _ _⟩
 | some ad =>
  have H:=zH h
  clear h
  have q0:=fun w=>Lib.run_eql_slice_nil (P:=Tryz.prog) w 23 22 (some ad) n c 0 0 Tryz.underlying23
  simp only [Option.isNone_some] at q0
  go_enter Tryz.func62,Tryz.ntmps62
  have o0:=Own.lit0 (W:=w) (k:=.i8) (E:=22) (base:=w.heap.size) (Nat.le_refl _)
  have k0:Below w.heap.size w (w.alloc (.cells #[] 22)):=(Below.refl _ _).alloc (Nat.le_refl _) _
  have s0:=H.out.later k0 (Nat.le_refl _)
  go_wp2_with (at_builtin;refine wpList_extend rfl _ _ rfl ei_i8' rfl o0 rfl s0 (by unfold maxLen;omega) (by omega) k0.size ?_;intro v' w' o' g' a')
  go_ret
  obtain ⟨A2,n2,c2,e2,s2,b2⟩:=o'.ret (by decide) (k0.grown g' k0.size (fun k h=>(o0.lt k h).1)) (fun b h=>h.elim)
  injection e2 with e2
  subst e2
  obtain rfl:_=n2:=(o'.length (by decide)).symm.trans s2.n_eq
  exact ⟨_,_,_,rfl,s2,b2,own_un o'⟩
end Go.Proofs.YtlbkekabmpienaaGreat
