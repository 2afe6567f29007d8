/-
  Kinds of nodes (layer 25): the word, whether it makes sums, whether it has a scale; scales (layer 2) that may be.
-/
import Derived.Test.YtppcjcigekoipaaGreatJ06
set_option linter.unusedVariables false
set_option linter.unusedSimpArgs false
namespace Go.Proofs.YtppcjcigekoipaaGreat
open Go.RowKit Go.ChangeShapes Go.WideShapes
set_option maxRecDepth 100000
def nameOf (k:Int):ByteArray:=if k=1 then (ByteArray.mk #[99,111,110,118]) else if k=2 then (ByteArray.mk #[100,101,112,116,104]) else if k=3 then (ByteArray.mk #[100,101,110,115,101]) else if k=4 then (ByteArray.mk #[109,97,120,112,111,111,108]) else if k=5 then (ByteArray.mk #[97,118,103,112,111,111,108]) else if k=6 then (ByteArray.mk #[106,111,105,110]) else if k=7 then (ByteArray.mk #[97,99,116]) else if k=8 then (ByteArray.mk #[112,97,100]) else if k=9 then (ByteArray.mk #[102,108,97,116]) else (ByteArray.mk #[])
def kindOk (k:Int):Prop:=1≤k∧k≤9
instance (k:Int):Decidable (kindOk k):=inferInstanceAs (Decidable (_∧_))
theorem kind_cases {k:Int} (h:0≤k∧k≤9):k=0 ∨ k=1 ∨ k=2 ∨ k=3 ∨ k=4 ∨ k=5 ∨ k=6 ∨ k=7 ∨ k=8 ∨ k=9:=by omega
theorem nameOf_bad {k:Int} (h:k < 0 ∨ 9 < k):nameOf k=ByteArray.mk #[]:=by
 unfold nameOf
 rw [if_neg (by omega),if_neg (by omega),if_neg (by omega),if_neg (by omega),if_neg (by omega),if_neg (by omega),if_neg (by omega),if_neg (by omega),if_neg (by omega)]
set_option maxHeartbeats 2000000 in
theorem kname_any (k:Int) (w:World):Calls Tryz.prog 138 #[.int .i64 k] w fun e w'=>e=.returned (.string (nameOf k))∧Below w.heap.size w w':=by
 by_cases h1:k < 0
 ·have t1:decide (k < 0)=true:=decide_eq_true h1
  have R:=zH (nameOf_bad (.inl h1))
  clear h1
  go_enter Tryz.func138,Tryz.ntmps138
  go_wp2_with fail
  go_ret
  exact ⟨by rw [R.out];rfl,by go_grown⟩
 have t1:decide (k < 0)=false:=decide_eq_false h1
 by_cases h2:9 < k
 ·have t2:decide (10≤k)=true:=by simp;omega
  have R:=zH (nameOf_bad (.inr h2))
  clear h1 h2
  go_enter Tryz.func138,Tryz.ntmps138
  go_wp2_with fail
  go_ret
  exact ⟨by rw [R.out];rfl,by go_grown⟩
 have hk:=kind_cases (k:=k) (by omega)
 clear t1 h1 h2
 rcases hk with rfl|rfl|rfl|rfl|rfl|rfl|rfl|rfl|rfl|rfl
 all_goals
  go_enter Tryz.func138,Tryz.ntmps138
  go_wp2_with fail
  go_ret
  exact ⟨rfl,by go_grown⟩
set_option maxHeartbeats 2000000 in
theorem rname_any (k:Int) (w:World):Calls Tryz.prog 76 #[.int .i64 k] w fun e w'=>e=.returned (.string (nameOf k))∧Below w.heap.size w w':=by
 by_cases h1:k < 0
 ·have t1:decide (k < 0)=true:=decide_eq_true h1
  have R:=zH (nameOf_bad (.inl h1))
  clear h1
  go_enter Tryz.func76,Tryz.ntmps76
  go_wp2_with fail
  go_ret
  exact ⟨by rw [R.out];rfl,by go_grown⟩
 have t1:decide (k < 0)=false:=decide_eq_false h1
 by_cases h2:9 < k
 ·have t2:decide (9 < k)=true:=by simp;omega
  have R:=zH (nameOf_bad (.inr h2))
  clear h1 h2
  go_enter Tryz.func76,Tryz.ntmps76
  go_wp2_with fail
  go_ret
  exact ⟨by rw [R.out];rfl,by go_grown⟩
 have hk:=kind_cases (k:=k) (by omega)
 clear t1 h1 h2
 rcases hk with rfl|rfl|rfl|rfl|rfl|rfl|rfl|rfl|rfl|rfl
 all_goals
  go_enter Tryz.func76,Tryz.ntmps76
  go_wp2_with fail
  go_ret
  exact ⟨rfl,by go_grown⟩
def sumsK (k:Int):Bool:=decide (k=1 ∨ k=2 ∨ k=3)
def scaledK (k:Int):Bool:=decide (k=1 ∨ k=2 ∨ k=3 ∨ k=6 ∨ k=7)
set_option maxHeartbeats 2000000 in
theorem sumsK_any (k:Int) (w:World):Calls Tryz.prog 169 #[.int .i64 k] w fun e w'=>e=.returned (.bool (sumsK k))∧w=w':=by
 obtain ⟨r,hr⟩:∃ r,sumsK k=r:=⟨_,rfl⟩
 rw [hr]
 unfold sumsK at hr
 by_cases h1:k=1
 ·have R:=zH (show true=r by rw [← hr];symm;exact decide_eq_true (by omega))
  clear hr 
  subst h1
  go_enter Tryz.func169,Tryz.ntmps169
  go_wp2_with fail
  go_ret
  exact ⟨ret_bool R.out,rfl⟩
 have t1:(k == 1)=false:=by simp;exact h1
 by_cases h2:k=2
 ·have R:=zH (show true=r by rw [← hr];symm;exact decide_eq_true (by omega))
  clear hr h1
  subst h2
  go_enter Tryz.func169,Tryz.ntmps169
  go_wp2_with fail
  go_ret
  exact ⟨ret_bool R.out,rfl⟩
 have t2:(k == 2)=false:=by simp;exact h2
 by_cases h3:k=3
 ·have R:=zH (show true=r by rw [← hr];symm;exact decide_eq_true (by omega))
  clear hr h1 h2
  subst h3
  go_enter Tryz.func169,Tryz.ntmps169
  go_wp2_with fail
  go_ret
  exact ⟨ret_bool R.out,rfl⟩
 have t3:(k == 3)=false:=by simp;exact h3
 have R:=zH (show false=r by rw [← hr];symm;exact decide_eq_false (by omega))
 clear hr h1 h2 h3
 go_enter Tryz.func169,Tryz.ntmps169
 go_wp2_with fail
 go_ret
 exact ⟨ret_bool R.out,rfl⟩
theorem sumsK_1:sumsK 1=true:=rfl
theorem sumsK_2:sumsK 2=true:=rfl
theorem sumsK_3:sumsK 3=true:=rfl
theorem sumsK_6:sumsK 6=false:=rfl
theorem sumsK_7:sumsK 7=false:=rfl
set_option maxHeartbeats 2000000 in
theorem scaledK_any (k:Int) (w:World):Calls Tryz.prog 141 #[.int .i64 k] w fun e w'=>e=.returned (.bool (scaledK k))∧w=w':=by
 obtain ⟨r,hr⟩:∃ r,scaledK k=r:=⟨_,rfl⟩
 rw [hr]
 unfold scaledK at hr
 by_cases h1:k=1
 ·have R:=zH (show true=r by rw [← hr];symm;exact decide_eq_true (by omega))
  clear hr 
  subst h1
  go_enter Tryz.func141,Tryz.ntmps141
  go_wp2_with (go_at_call 169;refine (sumsK_any _ _).mono ?_;rintro e w' ⟨rfl,rfl⟩;try rw [sumsK_1];try rw [sumsK_2];try rw [sumsK_3];try rw [sumsK_6];try rw [sumsK_7])
  go_ret
  exact ⟨ret_bool R.out,rfl⟩
 have t1:(k == 1)=false:=by simp;exact h1
 by_cases h2:k=2
 ·have R:=zH (show true=r by rw [← hr];symm;exact decide_eq_true (by omega))
  clear hr h1
  subst h2
  go_enter Tryz.func141,Tryz.ntmps141
  go_wp2_with (go_at_call 169;refine (sumsK_any _ _).mono ?_;rintro e w' ⟨rfl,rfl⟩;try rw [sumsK_1];try rw [sumsK_2];try rw [sumsK_3];try rw [sumsK_6];try rw [sumsK_7])
  go_ret
  exact ⟨ret_bool R.out,rfl⟩
 have t2:(k == 2)=false:=by simp;exact h2
 by_cases h3:k=3
 ·have R:=zH (show true=r by rw [← hr];symm;exact decide_eq_true (by omega))
  clear hr h1 h2
  subst h3
  go_enter Tryz.func141,Tryz.ntmps141
  go_wp2_with (go_at_call 169;refine (sumsK_any _ _).mono ?_;rintro e w' ⟨rfl,rfl⟩;try rw [sumsK_1];try rw [sumsK_2];try rw [sumsK_3];try rw [sumsK_6];try rw [sumsK_7])
  go_ret
  exact ⟨ret_bool R.out,rfl⟩
 have t3:(k == 3)=false:=by simp;exact h3
 by_cases h6:k=6
 ·have R:=zH (show true=r by rw [← hr];symm;exact decide_eq_true (by omega))
  clear hr h1 h2 h3
  subst h6
  go_enter Tryz.func141,Tryz.ntmps141
  go_wp2_with (go_at_call 169;refine (sumsK_any _ _).mono ?_;rintro e w' ⟨rfl,rfl⟩;try rw [sumsK_1];try rw [sumsK_2];try rw [sumsK_3];try rw [sumsK_6];try rw [sumsK_7])
  go_ret
  exact ⟨ret_bool R.out,rfl⟩
 have t6:(k == 6)=false:=by simp;exact h6
 by_cases h7:k=7
 ·have R:=zH (show true=r by rw [← hr];symm;exact decide_eq_true (by omega))
  clear hr h1 h2 h3 h6
  subst h7
  go_enter Tryz.func141,Tryz.ntmps141
  go_wp2_with (go_at_call 169;refine (sumsK_any _ _).mono ?_;rintro e w' ⟨rfl,rfl⟩;try rw [sumsK_1];try rw [sumsK_2];try rw [sumsK_3];try rw [sumsK_6];try rw [sumsK_7])
  go_ret
  exact ⟨ret_bool R.out,rfl⟩
 have t7:(k == 7)=false:=by simp;exact h7
 have R:=zH (show false=r by rw [← hr];symm;exact decide_eq_false (by omega))
 have S1:sumsK k=false:=decide_eq_false (by omega)
 clear hr h1 h2 h3 h6 h7
 go_enter Tryz.func141,Tryz.ntmps141
 go_wp2_with (go_at_call 169;refine (sumsK_any _ _).mono ?_;rintro e w' ⟨rfl,rfl⟩;try rw [sumsK_1];try rw [sumsK_2];try rw [sumsK_3];try rw [sumsK_6];try rw [sumsK_7])
 go_ret
 exact ⟨ret_bool R.out,rfl⟩
set_option maxHeartbeats 2000000 in
theorem rscaled_any (k:Int) (w:World):Calls Tryz.prog 78 #[.int .i64 k] w fun e w'=>e=.returned (.bool (scaledK k))∧w=w':=by
 obtain ⟨r,hr⟩:∃ r,scaledK k=r:=⟨_,rfl⟩
 rw [hr]
 unfold scaledK at hr
 by_cases h1:k=1
 ·have R:=zH (show true=r by rw [← hr];symm;exact decide_eq_true (by omega))
  clear hr 
  subst h1
  go_enter Tryz.func78,Tryz.ntmps78
  go_wp2_with fail
  go_ret
  exact ⟨ret_bool R.out,rfl⟩
 have t1:(k == 1)=false:=by simp;exact h1
 by_cases h2:k=2
 ·have R:=zH (show true=r by rw [← hr];symm;exact decide_eq_true (by omega))
  clear hr h1
  subst h2
  go_enter Tryz.func78,Tryz.ntmps78
  go_wp2_with fail
  go_ret
  exact ⟨ret_bool R.out,rfl⟩
 have t2:(k == 2)=false:=by simp;exact h2
 by_cases h3:k=3
 ·have R:=zH (show true=r by rw [← hr];symm;exact decide_eq_true (by omega))
  clear hr h1 h2
  subst h3
  go_enter Tryz.func78,Tryz.ntmps78
  go_wp2_with fail
  go_ret
  exact ⟨ret_bool R.out,rfl⟩
 have t3:(k == 3)=false:=by simp;exact h3
 by_cases h6:k=6
 ·have R:=zH (show true=r by rw [← hr];symm;exact decide_eq_true (by omega))
  clear hr h1 h2 h3
  subst h6
  go_enter Tryz.func78,Tryz.ntmps78
  go_wp2_with fail
  go_ret
  exact ⟨ret_bool R.out,rfl⟩
 have t6:(k == 6)=false:=by simp;exact h6
 by_cases h7:k=7
 ·have R:=zH (show true=r by rw [← hr];symm;exact decide_eq_true (by omega))
  clear hr h1 h2 h3 h6
  subst h7
  go_enter Tryz.func78,Tryz.ntmps78
  go_wp2_with fail
  go_ret
  exact ⟨ret_bool R.out,rfl⟩
 have t7:(k == 7)=false:=by simp;exact h7
 have R:=zH (show false=r by rw [← hr];symm;exact decide_eq_false (by omega))
 clear hr h1 h2 h3 h6 h7
 go_enter Tryz.func78,Tryz.ntmps78
 go_wp2_with fail
 go_ret
 exact ⟨ret_bool R.out,rfl⟩
def quantOk (m s:Int):Bool:=decide (0 < m∧0≤s∧s≤62)
set_option maxHeartbeats 2000000 in
theorem fixRight_any (m s z:Int) (w:World):Calls Tryz.prog 142 #[.agg #[.int .i32 m,.int .i64 s,.int .i8 z]] w fun e w'=>e=.returned (.bool (quantOk m s))∧Below w.heap.size w w':=by
 obtain ⟨r,hr⟩:∃ r,quantOk m s=r:=⟨_,rfl⟩
 rw [hr]
 unfold quantOk at hr
 by_cases h1:0 < m
 rotate_left
 ·have t1:decide (0 < m)=false:=decide_eq_false h1
  have R:=zH (show false=r by rw [← hr];symm;exact decide_eq_false (by omega))
  clear hr h1
  go_enter Tryz.func142,Tryz.ntmps142
  go_wp2_with fail
  go_ret
  exact ⟨ret_bool R.out,by go_grown⟩
 have t1:decide (0 < m)=true:=decide_eq_true h1
 by_cases h2:0≤s
 rotate_left
 ·have t2:decide (0≤s)=false:=decide_eq_false h2
  have R:=zH (show false=r by rw [← hr];symm;exact decide_eq_false (by omega))
  clear hr h1 h2
  go_enter Tryz.func142,Tryz.ntmps142
  go_wp2_with fail
  go_ret
  exact ⟨ret_bool R.out,by go_grown⟩
 have t2:decide (0≤s)=true:=decide_eq_true h2
 by_cases h3:s≤62
 ·have t3:decide (s≤62)=true:=decide_eq_true h3
  have R:=zH (show true=r by rw [← hr];symm;exact decide_eq_true (by omega))
  clear hr h1 h2 h3
  go_enter Tryz.func142,Tryz.ntmps142
  go_wp2_with fail
  go_ret
  exact ⟨ret_bool R.out,by go_grown⟩
 ·have t3:decide (s≤62)=false:=decide_eq_false h3
  have R:=zH (show false=r by rw [← hr];symm;exact decide_eq_false (by omega))
  clear hr h1 h2 h3
  go_enter Tryz.func142,Tryz.ntmps142
  go_wp2_with fail
  go_ret
  exact ⟨ret_bool R.out,by go_grown⟩
set_option maxHeartbeats 2000000 in
theorem rfixRight_any (m s z:Int) (w:World):Calls Tryz.prog 79 #[.agg #[.int .i32 m,.int .i64 s,.int .i8 z]] w fun e w'=>e=.returned (.bool (quantOk m s))∧Below w.heap.size w w':=by
 obtain ⟨r,hr⟩:∃ r,quantOk m s=r:=⟨_,rfl⟩
 rw [hr]
 unfold quantOk at hr
 by_cases h1:0 < m
 rotate_left
 ·have t1:decide (0 < m)=false:=decide_eq_false h1
  have R:=zH (show false=r by rw [← hr];symm;exact decide_eq_false (by omega))
  clear hr h1
  go_enter Tryz.func79,Tryz.ntmps79
  go_wp2_with fail
  go_ret
  exact ⟨ret_bool R.out,by go_grown⟩
 have t1:decide (0 < m)=true:=decide_eq_true h1
 by_cases h2:0≤s
 rotate_left
 ·have t2:decide (0≤s)=false:=decide_eq_false h2
  have R:=zH (show false=r by rw [← hr];symm;exact decide_eq_false (by omega))
  clear hr h1 h2
  go_enter Tryz.func79,Tryz.ntmps79
  go_wp2_with fail
  go_ret
  exact ⟨ret_bool R.out,by go_grown⟩
 have t2:decide (0≤s)=true:=decide_eq_true h2
 by_cases h3:s≤62
 ·have t3:decide (s≤62)=true:=decide_eq_true h3
  have R:=zH (show true=r by rw [← hr];symm;exact decide_eq_true (by omega))
  clear hr h1 h2 h3
  go_enter Tryz.func79,Tryz.ntmps79
  go_wp2_with fail
  go_ret
  exact ⟨ret_bool R.out,by go_grown⟩
 ·have t3:decide (s≤62)=false:=decide_eq_false h3
  have R:=zH (show false=r by rw [← hr];symm;exact decide_eq_false (by omega))
  clear hr h1 h2 h3
  go_enter Tryz.func79,Tryz.ntmps79
  go_wp2_with fail
  go_ret
  exact ⟨ret_bool R.out,by go_grown⟩
end Go.Proofs.YtppcjcigekoipaaGreat
