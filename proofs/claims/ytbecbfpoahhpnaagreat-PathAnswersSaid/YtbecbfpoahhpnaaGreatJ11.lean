/- Kinds of nodes (layer 25): the word, whether it makes sums, whether it has a scale; scales (layer 2) that may be. -/
import Derived.Test.YtbecbfpoahhpnaaGreatJ01
set_option linter.unusedVariables false
set_option linter.unusedSimpArgs false
set_option maxRecDepth 100000
set_option maxHeartbeats 16000000
namespace Go.Proofs.YtbecbfpoahhpnaaGreat
open Go.RowKit Go.ChangeShapes Go.WideShapes Tryz
def f7 (k:Int):ByteArray:=if k=1 then (ByteArray.mk #[99,111,110,118]) else if k=2 then (ByteArray.mk #[100,101,112,116,104]) else if k=3 then (ByteArray.mk #[100,101,110,115,101]) else if k=4 then (ByteArray.mk #[109,97,120,112,111,111,108]) else if k=5 then (ByteArray.mk #[97,118,103,112,111,111,108]) else if k=6 then (ByteArray.mk #[106,111,105,110]) else if k=7 then (ByteArray.mk #[97,99,116]) else if k=8 then (ByteArray.mk #[112,97,100]) else if k=9 then (ByteArray.mk #[102,108,97,116]) else (ByteArray.mk #[])
def dP (k:Int):Prop:=1≤k∧k≤9
instance (k:Int):Decidable (dP k):=inferInstanceAs (Decidable (_∧_))
theorem gZ {k:Int} (h:0≤k∧k≤9):k=0 ∨ k=1 ∨ k=2 ∨ k=3 ∨ k=4 ∨ k=5 ∨ k=6 ∨ k=7 ∨ k=8 ∨ k=9:=by omega
theorem jh {k:Int} (h:k < 0 ∨ 9 < k):f7 k=ByteArray.mk #[]:=by
 unfold f7;rw [if_neg oM,if_neg oM,if_neg oM,if_neg oM,if_neg oM,if_neg oM,if_neg oM,if_neg oM,if_neg oM]
theorem qS (k:Int) (w:World):Calls prog 134 #[.int .i64 k] w fun e w'=>e=.returned (.string (f7 k))∧Below w w w':=by
 by_cases t:k < 0
 ·have i:decide (k < 0)=true:=qT t;have R:=zH (jh (.inl t));clear t;go_in;go_wp2;go_ret;exact ⟨by rw [R.o];rfl,by go_grown⟩
 have i:decide (k < 0)=false:=dF t;by_cases a:9 < k
 ·have s:decide (10≤k)=true:=sO;have R:=zH (jh (.inr a));clear t a;go_in;go_wp2;go_ret;exact ⟨by rw [R.o];rfl,by go_grown⟩
 have n:=gZ (k:=k) oM;clear i t a;rcases n with rfl|rfl|rfl|rfl|rfl|rfl|rfl|rfl|rfl|rfl;all_goals
  go_in;go_wp2;go_ret;exact ⟨rfl,by go_grown⟩
theorem zI (k:Int) (w:World):Calls prog 95 #[.int .i64 k] w fun e w'=>e=.returned (.string (f7 k))∧Below w w w':=by
 by_cases t:k < 0
 ·have i:decide (k < 0)=true:=qT t;have R:=zH (jh (.inl t));clear t;go_in;go_wp2;go_ret;exact ⟨by rw [R.o];rfl,by go_grown⟩
 have i:decide (k < 0)=false:=dF t;by_cases a:9 < k
 ·have s:decide (9 < k)=true:=sO;have R:=zH (jh (.inr a));clear t a;go_in;go_wp2;go_ret;exact ⟨by rw [R.o];rfl,by go_grown⟩
 have n:=gZ (k:=k) oM;clear i t a;rcases n with rfl|rfl|rfl|rfl|rfl|rfl|rfl|rfl|rfl|rfl;all_goals
  go_in;go_wp2;go_ret;exact ⟨rfl,by go_grown⟩
def bk (k:Int):Bool:=decide (k=1 ∨ k=2 ∨ k=3)
def aG (k:Int):Bool:=decide (k=1 ∨ k=2 ∨ k=3 ∨ k=6 ∨ k=7)
theorem fI (k:Int) (w:World):Calls prog 173 #[.int .i64 k] w fun e w'=>e=.returned (.bool (bk k))∧w=w':=by
 obtain ⟨r,t⟩:∃ r,bk k=r:=⟨_,rfl⟩;rw [t];unfold bk at t;by_cases a:k=1
 ·have R:=zH (show true=r by rw [← t];symm;exact qT oM);clear t ;subst a;go_in;go_wp2;go_ret;exact ⟨aC R.o,rfl⟩
 have s:(k == 1)=false:=by simp;exact a
 by_cases i:k=2
 ·have R:=zH (show true=r by rw [← t];symm;exact qT oM);clear t a;subst i;go_in;go_wp2;go_ret;exact ⟨aC R.o,rfl⟩
 have h:(k == 2)=false:=by simp;exact i
 by_cases n:k=3
 ·have R:=zH (show true=r by rw [← t];symm;exact qT oM);clear t a i;subst n;go_in;go_wp2;go_ret;exact ⟨aC R.o,rfl⟩
 have t3:(k == 3)=false:=by simp;exact n
 have R:=zH (show false=r by rw [← t];symm;exact dF oM);clear t a i n;go_in;go_wp2;go_ret;exact ⟨aC R.o,rfl⟩
theorem jr:bk 1=true:=rfl
theorem js:bk 2=true:=rfl
theorem jt:bk 3=true:=rfl
theorem ju:bk 6=false:=rfl
theorem jv:bk 7=false:=rfl
theorem nC (k:Int) (w:World):Calls prog 137 #[.int .i64 k] w fun e w'=>e=.returned (.bool (aG k))∧w=w':=by
 obtain ⟨r,t⟩:∃ r,aG k=r:=⟨_,rfl⟩;rw [t];unfold aG at t;by_cases a:k=1
 ·have R:=zH (show true=r by rw [← t];symm;exact qT oM);clear t ;subst a;go_in
  go_wp2_with (go_at_call 173;refine (fI _ _).mono ?_;rintro e w' ⟨rfl,rfl⟩;try rw [jr];try rw [js];try rw [jt];try rw [ju];try rw [jv])
  go_ret;exact ⟨aC R.o,rfl⟩
 have l:(k == 1)=false:=by simp;exact a
 by_cases i:k=2
 ·have R:=zH (show true=r by rw [← t];symm;exact qT oM);clear t a;subst i;go_in
  go_wp2_with (go_at_call 173;refine (fI _ _).mono ?_;rintro e w' ⟨rfl,rfl⟩;try rw [jr];try rw [js];try rw [jt];try rw [ju];try rw [jv])
  go_ret;exact ⟨aC R.o,rfl⟩
 have c:(k == 2)=false:=by simp;exact i
 by_cases n:k=3
 ·have R:=zH (show true=r by rw [← t];symm;exact qT oM);clear t a i;subst n;go_in
  go_wp2_with (go_at_call 173;refine (fI _ _).mono ?_;rintro e w' ⟨rfl,rfl⟩;try rw [jr];try rw [js];try rw [jt];try rw [ju];try rw [jv])
  go_ret;exact ⟨aC R.o,rfl⟩
 have t3:(k == 3)=false:=by simp;exact n
 by_cases s:k=6
 ·have R:=zH (show true=r by rw [← t];symm;exact qT oM);clear t a i n;subst s;go_in
  go_wp2_with (go_at_call 173;refine (fI _ _).mono ?_;rintro e w' ⟨rfl,rfl⟩;try rw [jr];try rw [js];try rw [jt];try rw [ju];try rw [jv])
  go_ret;exact ⟨aC R.o,rfl⟩
 have m:(k == 6)=false:=by simp;exact s
 by_cases h:k=7
 ·have R:=zH (show true=r by rw [← t];symm;exact qT oM);clear t a i n s;subst h;go_in
  go_wp2_with (go_at_call 173;refine (fI _ _).mono ?_;rintro e w' ⟨rfl,rfl⟩;try rw [jr];try rw [js];try rw [jt];try rw [ju];try rw [jv])
  go_ret;exact ⟨aC R.o,rfl⟩
 have f:(k == 7)=false:=by simp;exact h
 have R:=zH (show false=r by rw [← t];symm;exact dF oM);have d:bk k=false:=dF oM;clear t a i n s h;go_in
 go_wp2_with (go_at_call 173;refine (fI _ _).mono ?_;rintro e w' ⟨rfl,rfl⟩;try rw [jr];try rw [js];try rw [jt];try rw [ju];try rw [jv])
 go_ret;exact ⟨aC R.o,rfl⟩
theorem dj (k:Int) (w:World):Calls prog 97 #[.int .i64 k] w fun e w'=>e=.returned (.bool (aG k))∧w=w':=by
 obtain ⟨r,t⟩:∃ r,aG k=r:=⟨_,rfl⟩;rw [t];unfold aG at t;by_cases a:k=1
 ·have R:=zH (show true=r by rw [← t];symm;exact qT oM);clear t ;subst a;go_in;go_wp2;go_ret;exact ⟨aC R.o,rfl⟩
 have d:(k == 1)=false:=by simp;exact a
 by_cases i:k=2
 ·have R:=zH (show true=r by rw [← t];symm;exact qT oM);clear t a;subst i;go_in;go_wp2;go_ret;exact ⟨aC R.o,rfl⟩
 have l:(k == 2)=false:=by simp;exact i
 by_cases n:k=3
 ·have R:=zH (show true=r by rw [← t];symm;exact qT oM);clear t a i;subst n;go_in;go_wp2;go_ret;exact ⟨aC R.o,rfl⟩
 have t3:(k == 3)=false:=by simp;exact n
 by_cases s:k=6
 ·have R:=zH (show true=r by rw [← t];symm;exact qT oM);clear t a i n;subst s;go_in;go_wp2;go_ret;exact ⟨aC R.o,rfl⟩
 have c:(k == 6)=false:=by simp;exact s
 by_cases h:k=7
 ·have R:=zH (show true=r by rw [← t];symm;exact qT oM);clear t a i n s;subst h;go_in;go_wp2;go_ret;exact ⟨aC R.o,rfl⟩
 have m:(k == 7)=false:=by simp;exact h
 have R:=zH (show false=r by rw [← t];symm;exact dF oM);clear t a i n s h;go_in;go_wp2;go_ret;exact ⟨aC R.o,rfl⟩
def aD (m s:Int):Bool:=decide (0 < m∧0≤s∧s≤62)
theorem dO (m s z:Int) (w:World):Calls prog 138 #[.agg #[.int .i32 m,.int .i64 s,.int .i8 z]] w fun e w'=>e=.returned (.bool (aD m s))∧Below w w w':=by
 obtain ⟨r,t⟩:∃ r,aD m s=r:=⟨_,rfl⟩;rw [t];unfold aD at t;by_cases a:0 < m;rotate_left
 ·have h:decide (0 < m)=false:=dF a;have R:=zH (show false=r by rw [← t];symm;exact dF oM);clear t a;go_in;go_wp2;go_ret;exact ⟨aC R.o,by go_grown⟩
 have h:decide (0 < m)=true:=qT a;by_cases i:0≤s;rotate_left
 ·have d:decide (0≤s)=false:=dF i;have R:=zH (show false=r by rw [← t];symm;exact dF oM);clear t a i;go_in;go_wp2;go_ret;exact ⟨aC R.o,by go_grown⟩
 have d:decide (0≤s)=true:=qT i;by_cases n:s≤62
 ·have t3:decide (s≤62)=true:=qT n;have R:=zH (show true=r by rw [← t];symm;exact qT oM);clear t a i n;go_in;go_wp2;go_ret;exact ⟨aC R.o,by go_grown⟩
 ·have t3:decide (s≤62)=false:=dF n;have R:=zH (show false=r by rw [← t];symm;exact dF oM);clear t a i n;go_in;go_wp2;go_ret;exact ⟨aC R.o,by go_grown⟩
theorem fj (m s z:Int) (w:World):Calls prog 98 #[.agg #[.int .i32 m,.int .i64 s,.int .i8 z]] w fun e w'=>e=.returned (.bool (aD m s))∧Below w w w':=by
 obtain ⟨r,t⟩:∃ r,aD m s=r:=⟨_,rfl⟩;rw [t];unfold aD at t;by_cases a:0 < m;rotate_left
 ·have h:decide (0 < m)=false:=dF a;have R:=zH (show false=r by rw [← t];symm;exact dF oM);clear t a;go_in;go_wp2;go_ret;exact ⟨aC R.o,by go_grown⟩
 have h:decide (0 < m)=true:=qT a;by_cases i:0≤s;rotate_left
 ·have d:decide (0≤s)=false:=dF i;have R:=zH (show false=r by rw [← t];symm;exact dF oM);clear t a i;go_in;go_wp2;go_ret;exact ⟨aC R.o,by go_grown⟩
 have d:decide (0≤s)=true:=qT i;by_cases n:s≤62
 ·have t3:decide (s≤62)=true:=qT n;have R:=zH (show true=r by rw [← t];symm;exact qT oM);clear t a i n;go_in;go_wp2;go_ret;exact ⟨aC R.o,by go_grown⟩
 ·have t3:decide (s≤62)=false:=dF n;have R:=zH (show false=r by rw [← t];symm;exact dF oM);clear t a i n;go_in;go_wp2;go_ret;exact ⟨aC R.o,by go_grown⟩
end Go.Proofs.YtbecbfpoahhpnaaGreat
