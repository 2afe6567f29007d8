/-
  Kinds of nodes (layer 25): the word, whether it makes sums, whether it has a scale; scales (layer 2) that may be.
-/
import Derived.Test.YtlbkekabmpienaaGreatChecked
import Derived.Test.YtlbkekabmpienaaGreatJ06
import Derived.Test.YtlbkekabmpienaaGreatJ00
import Derived.Test.YtlbkekabmpienaaGreatJ04
import Derived.Test.YtlbkekabmpienaaGreatJ03
import Derived.Test.YtlbkekabmpienaaGreatKA00
import Derived.Test.YtlbkekabmpienaaGreatJ02
import Derived.Test.YtlbkekabmpienaaGreatJ01
import Derived.Test.YtlbkekabmpienaaGreatJ18
namespace Go.Proofs.YtlbkekabmpienaaGreat
set_option linter.unusedVariables false
set_option linter.unusedSimpArgs false
open Go.RowKit Go.ChangeShapes Go.WideShapes
set_option maxRecDepth 100000
set_option maxHeartbeats 2000000 in
theorem rname_any (k:Int) (w:World):Calls Tryz.prog 64 #[.int .i64 k] w fun e w'=>e=.returned (.string (nameOf k))∧Below w.heap.size w w':=by
 by_cases h1:k < 0
 ·have t1:decide (k < 0)=true:=decide_eq_true h1
  have R:=zH (nameOf_bad (.inl h1))
  clear h1
  go_enter Tryz.func64,Tryz.ntmps64
  go_wp2_with fail
  go_ret
  exact ⟨by rw [R.out];rfl,by go_grown⟩
 have t1:decide (k < 0)=false:=decide_eq_false h1
 by_cases h2:9 < k
 ·have t2:decide (9 < k)=true:=by simp;omega
  have R:=zH (nameOf_bad (.inr h2))
  clear h1 h2
  go_enter Tryz.func64,Tryz.ntmps64
  go_wp2_with fail
  go_ret
  exact ⟨by rw [R.out];rfl,by go_grown⟩
 have hk:=kind_cases (k:=k) (by omega)
 clear t1 h1 h2
 rcases hk with rfl|rfl|rfl|rfl|rfl|rfl|rfl|rfl|rfl|rfl
 all_goals
  go_enter Tryz.func64,Tryz.ntmps64
  go_wp2_with fail
  go_ret
  exact ⟨rfl,by go_grown⟩
set_option maxHeartbeats 2000000 in
theorem rscaled_any (k:Int) (w:World):Calls Tryz.prog 66 #[.int .i64 k] w fun e w'=>e=.returned (.bool (scaledK k))∧w=w':=by
 obtain ⟨r,hr⟩:∃ r,scaledK k=r:=⟨_,rfl⟩
 rw [hr]
 unfold scaledK at hr
 by_cases h1:k=1
 ·have R:=zH (show true=r by rw [← hr];symm;exact decide_eq_true (by omega))
  clear hr 
  subst h1
  go_enter Tryz.func66,Tryz.ntmps66
  go_wp2_with fail
  go_ret
  exact ⟨ret_bool R.out,rfl⟩
 have t1:(k == 1)=false:=by simp;exact h1
 by_cases h2:k=2
 ·have R:=zH (show true=r by rw [← hr];symm;exact decide_eq_true (by omega))
  clear hr h1
  subst h2
  go_enter Tryz.func66,Tryz.ntmps66
  go_wp2_with fail
  go_ret
  exact ⟨ret_bool R.out,rfl⟩
 have t2:(k == 2)=false:=by simp;exact h2
 by_cases h3:k=3
 ·have R:=zH (show true=r by rw [← hr];symm;exact decide_eq_true (by omega))
  clear hr h1 h2
  subst h3
  go_enter Tryz.func66,Tryz.ntmps66
  go_wp2_with fail
  go_ret
  exact ⟨ret_bool R.out,rfl⟩
 have t3:(k == 3)=false:=by simp;exact h3
 by_cases h6:k=6
 ·have R:=zH (show true=r by rw [← hr];symm;exact decide_eq_true (by omega))
  clear hr h1 h2 h3
  subst h6
  go_enter Tryz.func66,Tryz.ntmps66
  go_wp2_with fail
  go_ret
  exact ⟨ret_bool R.out,rfl⟩
 have t6:(k == 6)=false:=by simp;exact h6
 by_cases h7:k=7
 ·have R:=zH (show true=r by rw [← hr];symm;exact decide_eq_true (by omega))
  clear hr h1 h2 h3 h6
  subst h7
  go_enter Tryz.func66,Tryz.ntmps66
  go_wp2_with fail
  go_ret
  exact ⟨ret_bool R.out,rfl⟩
 have t7:(k == 7)=false:=by simp;exact h7
 have R:=zH (show false=r by rw [← hr];symm;exact decide_eq_false (by omega))
 clear hr h1 h2 h3 h6 h7
 go_enter Tryz.func66,Tryz.ntmps66
 go_wp2_with fail
 go_ret
 exact ⟨ret_bool R.out,rfl⟩
set_option maxHeartbeats 2000000 in
theorem rfixRight_any (m s z:Int) (w:World):Calls Tryz.prog 67 #[.agg #[.int .i32 m,.int .i64 s,.int .i8 z]] w fun e w'=>e=.returned (.bool (quantOk m s))∧Below w.heap.size w w':=by
 obtain ⟨r,hr⟩:∃ r,quantOk m s=r:=⟨_,rfl⟩
 rw [hr]
 unfold quantOk at hr
 by_cases h1:0 < m
 rotate_left
 ·have t1:decide (0 < m)=false:=decide_eq_false h1
  have R:=zH (show false=r by rw [← hr];symm;exact decide_eq_false (by omega))
  clear hr h1
  go_enter Tryz.func67,Tryz.ntmps67
  go_wp2_with fail
  go_ret
  exact ⟨ret_bool R.out,by go_grown⟩
 have t1:decide (0 < m)=true:=decide_eq_true h1
 by_cases h2:0≤s
 rotate_left
 ·have t2:decide (0≤s)=false:=decide_eq_false h2
  have R:=zH (show false=r by rw [← hr];symm;exact decide_eq_false (by omega))
  clear hr h1 h2
  go_enter Tryz.func67,Tryz.ntmps67
  go_wp2_with fail
  go_ret
  exact ⟨ret_bool R.out,by go_grown⟩
 have t2:decide (0≤s)=true:=decide_eq_true h2
 by_cases h3:s≤62
 ·have t3:decide (s≤62)=true:=decide_eq_true h3
  have R:=zH (show true=r by rw [← hr];symm;exact decide_eq_true (by omega))
  clear hr h1 h2 h3
  go_enter Tryz.func67,Tryz.ntmps67
  go_wp2_with fail
  go_ret
  exact ⟨ret_bool R.out,by go_grown⟩
 ·have t3:decide (s≤62)=false:=decide_eq_false h3
  have R:=zH (show false=r by rw [← hr];symm;exact decide_eq_false (by omega))
  clear hr h1 h2 h3
  go_enter Tryz.func67,Tryz.ntmps67
  go_wp2_with fail
  go_ret
  exact ⟨ret_bool R.out,by go_grown⟩
end Go.Proofs.YtlbkekabmpienaaGreat
