/-
  Kinds of nodes (layer 25): the word, whether it makes sums, whether it has a scale; scales (layer 2) that may be.
-/
import Derived.Test.YtmihnoagagbgaaaGreatJ06
set_option linter.unusedVariables false
set_option linter.unusedSimpArgs false
set_option maxRecDepth 100000
set_option maxHeartbeats 16000000
namespace Go.Proofs.YtmihnoagagbgaaaGreat
open Go.RowKit Go.ChangeShapes Go.WideShapes Tryz
set_option maxRecDepth 100000
set_option maxHeartbeats 16000000
def d8 (k:Int):ByteArray:=if k=1 then (ByteArray.mk #[99,111,110,118]) else if k=2 then (ByteArray.mk #[100,101,112,116,104]) else if k=3 then (ByteArray.mk #[100,101,110,115,101]) else if k=4 then (ByteArray.mk #[109,97,120,112,111,111,108]) else if k=5 then (ByteArray.mk #[97,118,103,112,111,111,108]) else if k=6 then (ByteArray.mk #[106,111,105,110]) else if k=7 then (ByteArray.mk #[97,99,116]) else if k=8 then (ByteArray.mk #[112,97,100]) else if k=9 then (ByteArray.mk #[102,108,97,116]) else (ByteArray.mk #[])
def cS (k:Int):Prop:=1≤k∧k≤9
instance (k:Int):Decidable (cS k):=inferInstanceAs (Decidable (_∧_))
theorem eI {k:Int} (h:0≤k∧k≤9):k=0 ∨ k=1 ∨ k=2 ∨ k=3 ∨ k=4 ∨ k=5 ∨ k=6 ∨ k=7 ∨ k=8 ∨ k=9:=by omega
theorem fB {k:Int} (h:k < 0 ∨ 9 < k):d8 k=ByteArray.mk #[]:=by
 unfold d8
 rw [if_neg oM,if_neg oM,if_neg oM,if_neg oM,if_neg oM,if_neg oM,if_neg oM,if_neg oM,if_neg oM]
theorem ke (k:Int) (w:World):Calls prog 77 #[.int .i64 k] w fun e w'=>e=.returned (.string (d8 k))∧Below w w w':=by
 by_cases h1:k < 0
 ·have t1:decide (k < 0)=true:=qT h1
  have R:=zH (fB (.inl h1))
  clear h1
  go_in
  go_wp2
  go_ret
  exact ⟨by rw [R.o];rfl,by go_grown⟩
 have t1:decide (k < 0)=false:=dF h1
 by_cases h2:9 < k
 ·have t2:decide (10≤k)=true:=by simp;omega
  have R:=zH (fB (.inr h2))
  clear h1 h2
  go_in
  go_wp2
  go_ret
  exact ⟨by rw [R.o];rfl,by go_grown⟩
 have hk:=eI (k:=k) oM
 clear t1 h1 h2
 rcases hk with rfl|rfl|rfl|rfl|rfl|rfl|rfl|rfl|rfl|rfl
 all_goals
  go_in
  go_wp2
  go_ret
  exact ⟨rfl,by go_grown⟩
theorem rA (k:Int) (w:World):Calls prog 52 #[.int .i64 k] w fun e w'=>e=.returned (.string (d8 k))∧Below w w w':=by
 by_cases h1:k < 0
 ·have t1:decide (k < 0)=true:=qT h1
  have R:=zH (fB (.inl h1))
  clear h1
  go_in
  go_wp2
  go_ret
  exact ⟨by rw [R.o];rfl,by go_grown⟩
 have t1:decide (k < 0)=false:=dF h1
 by_cases h2:9 < k
 ·have t2:decide (9 < k)=true:=by simp;omega
  have R:=zH (fB (.inr h2))
  clear h1 h2
  go_in
  go_wp2
  go_ret
  exact ⟨by rw [R.o];rfl,by go_grown⟩
 have hk:=eI (k:=k) oM
 clear t1 h1 h2
 rcases hk with rfl|rfl|rfl|rfl|rfl|rfl|rfl|rfl|rfl|rfl
 all_goals
  go_in
  go_wp2
  go_ret
  exact ⟨rfl,by go_grown⟩
def bY (k:Int):Bool:=decide (k=1 ∨ k=2 ∨ k=3)
def aA (k:Int):Bool:=decide (k=1 ∨ k=2 ∨ k=3 ∨ k=6 ∨ k=7)
theorem ey (k:Int) (w:World):Calls prog 117 #[.int .i64 k] w fun e w'=>e=.returned (.bool (bY k))∧w=w':=by
 obtain ⟨r,hr⟩:∃ r,bY k=r:=⟨_,rfl⟩
 rw [hr]
 unfold bY at hr
 by_cases h1:k=1
 ·have R:=zH (show true=r by rw [← hr];symm;exact qT oM)
  clear hr 
  subst h1
  go_in
  go_wp2
  go_ret
  exact ⟨au R.o,rfl⟩
 have t1:(k == 1)=false:=by simp;exact h1
 by_cases h2:k=2
 ·have R:=zH (show true=r by rw [← hr];symm;exact qT oM)
  clear hr h1
  subst h2
  go_in
  go_wp2
  go_ret
  exact ⟨au R.o,rfl⟩
 have t2:(k == 2)=false:=by simp;exact h2
 by_cases h3:k=3
 ·have R:=zH (show true=r by rw [← hr];symm;exact qT oM)
  clear hr h1 h2
  subst h3
  go_in
  go_wp2
  go_ret
  exact ⟨au R.o,rfl⟩
 have t3:(k == 3)=false:=by simp;exact h3
 have R:=zH (show false=r by rw [← hr];symm;exact dF oM)
 clear hr h1 h2 h3
 go_in
 go_wp2
 go_ret
 exact ⟨au R.o,rfl⟩
theorem fH:bY 1=true:=rfl
theorem fI:bY 2=true:=rfl
theorem fJ:bY 3=true:=rfl
theorem fK:bY 6=false:=rfl
theorem fL:bY 7=false:=rfl
theorem iT (k:Int) (w:World):Calls prog 80 #[.int .i64 k] w fun e w'=>e=.returned (.bool (aA k))∧w=w':=by
 obtain ⟨r,hr⟩:∃ r,aA k=r:=⟨_,rfl⟩
 rw [hr]
 unfold aA at hr
 by_cases h1:k=1
 ·have R:=zH (show true=r by rw [← hr];symm;exact qT oM)
  clear hr 
  subst h1
  go_in
  go_wp2_with (go_at_call 117;refine (ey _ _).mono ?_;rintro e w' ⟨rfl,rfl⟩;try rw [fH];try rw [fI];try rw [fJ];try rw [fK];try rw [fL])
  go_ret
  exact ⟨au R.o,rfl⟩
 have t1:(k == 1)=false:=by simp;exact h1
 by_cases h2:k=2
 ·have R:=zH (show true=r by rw [← hr];symm;exact qT oM)
  clear hr h1
  subst h2
  go_in
  go_wp2_with (go_at_call 117;refine (ey _ _).mono ?_;rintro e w' ⟨rfl,rfl⟩;try rw [fH];try rw [fI];try rw [fJ];try rw [fK];try rw [fL])
  go_ret
  exact ⟨au R.o,rfl⟩
 have t2:(k == 2)=false:=by simp;exact h2
 by_cases h3:k=3
 ·have R:=zH (show true=r by rw [← hr];symm;exact qT oM)
  clear hr h1 h2
  subst h3
  go_in
  go_wp2_with (go_at_call 117;refine (ey _ _).mono ?_;rintro e w' ⟨rfl,rfl⟩;try rw [fH];try rw [fI];try rw [fJ];try rw [fK];try rw [fL])
  go_ret
  exact ⟨au R.o,rfl⟩
 have t3:(k == 3)=false:=by simp;exact h3
 by_cases h6:k=6
 ·have R:=zH (show true=r by rw [← hr];symm;exact qT oM)
  clear hr h1 h2 h3
  subst h6
  go_in
  go_wp2_with (go_at_call 117;refine (ey _ _).mono ?_;rintro e w' ⟨rfl,rfl⟩;try rw [fH];try rw [fI];try rw [fJ];try rw [fK];try rw [fL])
  go_ret
  exact ⟨au R.o,rfl⟩
 have t6:(k == 6)=false:=by simp;exact h6
 by_cases h7:k=7
 ·have R:=zH (show true=r by rw [← hr];symm;exact qT oM)
  clear hr h1 h2 h3 h6
  subst h7
  go_in
  go_wp2_with (go_at_call 117;refine (ey _ _).mono ?_;rintro e w' ⟨rfl,rfl⟩;try rw [fH];try rw [fI];try rw [fJ];try rw [fK];try rw [fL])
  go_ret
  exact ⟨au R.o,rfl⟩
 have t7:(k == 7)=false:=by simp;exact h7
 have R:=zH (show false=r by rw [← hr];symm;exact dF oM)
 have S1:bY k=false:=dF oM
 clear hr h1 h2 h3 h6 h7
 go_in
 go_wp2_with (go_at_call 117;refine (ey _ _).mono ?_;rintro e w' ⟨rfl,rfl⟩;try rw [fH];try rw [fI];try rw [fJ];try rw [fK];try rw [fL])
 go_ret
 exact ⟨au R.o,rfl⟩
theorem bZ (k:Int) (w:World):Calls prog 54 #[.int .i64 k] w fun e w'=>e=.returned (.bool (aA k))∧w=w':=by
 obtain ⟨r,hr⟩:∃ r,aA k=r:=⟨_,rfl⟩
 rw [hr]
 unfold aA at hr
 by_cases h1:k=1
 ·have R:=zH (show true=r by rw [← hr];symm;exact qT oM)
  clear hr 
  subst h1
  go_in
  go_wp2
  go_ret
  exact ⟨au R.o,rfl⟩
 have t1:(k == 1)=false:=by simp;exact h1
 by_cases h2:k=2
 ·have R:=zH (show true=r by rw [← hr];symm;exact qT oM)
  clear hr h1
  subst h2
  go_in
  go_wp2
  go_ret
  exact ⟨au R.o,rfl⟩
 have t2:(k == 2)=false:=by simp;exact h2
 by_cases h3:k=3
 ·have R:=zH (show true=r by rw [← hr];symm;exact qT oM)
  clear hr h1 h2
  subst h3
  go_in
  go_wp2
  go_ret
  exact ⟨au R.o,rfl⟩
 have t3:(k == 3)=false:=by simp;exact h3
 by_cases h6:k=6
 ·have R:=zH (show true=r by rw [← hr];symm;exact qT oM)
  clear hr h1 h2 h3
  subst h6
  go_in
  go_wp2
  go_ret
  exact ⟨au R.o,rfl⟩
 have t6:(k == 6)=false:=by simp;exact h6
 by_cases h7:k=7
 ·have R:=zH (show true=r by rw [← hr];symm;exact qT oM)
  clear hr h1 h2 h3 h6
  subst h7
  go_in
  go_wp2
  go_ret
  exact ⟨au R.o,rfl⟩
 have t7:(k == 7)=false:=by simp;exact h7
 have R:=zH (show false=r by rw [← hr];symm;exact dF oM)
 clear hr h1 h2 h3 h6 h7
 go_in
 go_wp2
 go_ret
 exact ⟨au R.o,rfl⟩
def aq (m s:Int):Bool:=decide (0 < m∧0≤s∧s≤62)
theorem cR (m s z:Int) (w:World):Calls prog 81 #[.agg #[.int .i32 m,.int .i64 s,.int .i8 z]] w fun e w'=>e=.returned (.bool (aq m s))∧Below w w w':=by
 obtain ⟨r,hr⟩:∃ r,aq m s=r:=⟨_,rfl⟩
 rw [hr]
 unfold aq at hr
 by_cases h1:0 < m
 rotate_left
 ·have t1:decide (0 < m)=false:=dF h1
  have R:=zH (show false=r by rw [← hr];symm;exact dF oM)
  clear hr h1
  go_in
  go_wp2
  go_ret
  exact ⟨au R.o,by go_grown⟩
 have t1:decide (0 < m)=true:=qT h1
 by_cases h2:0≤s
 rotate_left
 ·have t2:decide (0≤s)=false:=dF h2
  have R:=zH (show false=r by rw [← hr];symm;exact dF oM)
  clear hr h1 h2
  go_in
  go_wp2
  go_ret
  exact ⟨au R.o,by go_grown⟩
 have t2:decide (0≤s)=true:=qT h2
 by_cases h3:s≤62
 ·have t3:decide (s≤62)=true:=qT h3
  have R:=zH (show true=r by rw [← hr];symm;exact qT oM)
  clear hr h1 h2 h3
  go_in
  go_wp2
  go_ret
  exact ⟨au R.o,by go_grown⟩
 ·have t3:decide (s≤62)=false:=dF h3
  have R:=zH (show false=r by rw [← hr];symm;exact dF oM)
  clear hr h1 h2 h3
  go_in
  go_wp2
  go_ret
  exact ⟨au R.o,by go_grown⟩
theorem bK (m s z:Int) (w:World):Calls prog 55 #[.agg #[.int .i32 m,.int .i64 s,.int .i8 z]] w fun e w'=>e=.returned (.bool (aq m s))∧Below w w w':=by
 obtain ⟨r,hr⟩:∃ r,aq m s=r:=⟨_,rfl⟩
 rw [hr]
 unfold aq at hr
 by_cases h1:0 < m
 rotate_left
 ·have t1:decide (0 < m)=false:=dF h1
  have R:=zH (show false=r by rw [← hr];symm;exact dF oM)
  clear hr h1
  go_in
  go_wp2
  go_ret
  exact ⟨au R.o,by go_grown⟩
 have t1:decide (0 < m)=true:=qT h1
 by_cases h2:0≤s
 rotate_left
 ·have t2:decide (0≤s)=false:=dF h2
  have R:=zH (show false=r by rw [← hr];symm;exact dF oM)
  clear hr h1 h2
  go_in
  go_wp2
  go_ret
  exact ⟨au R.o,by go_grown⟩
 have t2:decide (0≤s)=true:=qT h2
 by_cases h3:s≤62
 ·have t3:decide (s≤62)=true:=qT h3
  have R:=zH (show true=r by rw [← hr];symm;exact qT oM)
  clear hr h1 h2 h3
  go_in
  go_wp2
  go_ret
  exact ⟨au R.o,by go_grown⟩
 ·have t3:decide (s≤62)=false:=dF h3
  have R:=zH (show false=r by rw [← hr];symm;exact dF oM)
  clear hr h1 h2 h3
  go_in
  go_wp2
  go_ret
  exact ⟨au R.o,by go_grown⟩
end Go.Proofs.YtmihnoagagbgaaaGreat
