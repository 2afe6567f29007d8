/-
  engine.New of any config (layer 43): whether it may be; the document's word for it.
-/
import Derived.Test.YtppcjcigekoipaaGreatJ45
set_option linter.unusedVariables false
set_option linter.unusedSimpArgs false
namespace Go.Proofs.YtppcjcigekoipaaGreat
open Go.RowKit Go.ChangeShapes Go.WideShapes
set_option maxRecDepth 100000
set_option maxHeartbeats 4000000
def upR (q B:Int):Bool:=decide (1≤q) && decide (q≤B)
def codeR (b:Bool):Int:=if b=true then 0 else 2
def RetC (b:Bool) (w:World) (e:Ending) (w':World):Prop:=(∃ p,e=.returned (.tuple #[.pointer p,.int .i64 (codeR b)]))∧Below w.heap.size w w'
theorem accNewG (l c r:Int) (w:World):Calls Tryz.prog 32 (sN l c r) w (RetC (tokR l c r) w):=by
 by_cases a0:l < 1
 ·have t0:decide (l < 1)=true:=by simpa using a0
  have E:=zH (show tokR l c r=false by unfold tokR;rw [Bool.eq_false_iff];intro h;simp only [Bool.and_eq_true,decide_eq_true_eq] at h;omega)
  go_enter Tryz.func32,Tryz.ntmps32
  go_wp2_with fail
  go_ret2
  exact ⟨⟨none,by rw [E.out] <;> rfl⟩,by go_grown⟩
 have t0:decide (l < 1)=false:=by simpa using a0
 by_cases a1:1099511627776 < l
 ·have t1:decide (1099511627776 < l)=true:=by simpa using a1
  have E:=zH (show tokR l c r=false by unfold tokR;rw [Bool.eq_false_iff];intro h;simp only [Bool.and_eq_true,decide_eq_true_eq] at h;omega)
  go_enter Tryz.func32,Tryz.ntmps32
  go_wp2_with fail
  go_ret2
  exact ⟨⟨none,by rw [E.out] <;> rfl⟩,by go_grown⟩
 have t1:decide (1099511627776 < l)=false:=by simpa using a1
 by_cases a2:c < 0
 ·have t2:decide (c < 0)=true:=by simpa using a2
  have E:=zH (show tokR l c r=false by unfold tokR;rw [Bool.eq_false_iff];intro h;simp only [Bool.and_eq_true,decide_eq_true_eq] at h;omega)
  go_enter Tryz.func32,Tryz.ntmps32
  go_wp2_with fail
  go_ret2
  exact ⟨⟨none,by rw [E.out] <;> rfl⟩,by go_grown⟩
 have t2:decide (c < 0)=false:=by simpa using a2
 by_cases a3:l < c
 ·have t3:decide (l < c)=true:=by simpa using a3
  have E:=zH (show tokR l c r=false by unfold tokR;rw [Bool.eq_false_iff];intro h;simp only [Bool.and_eq_true,decide_eq_true_eq] at h;omega)
  go_enter Tryz.func32,Tryz.ntmps32
  go_wp2_with fail
  go_ret2
  exact ⟨⟨none,by rw [E.out] <;> rfl⟩,by go_grown⟩
 have t3:decide (l < c)=false:=by simpa using a3
 by_cases a4:r < 0
 ·have t4:decide (r < 0)=true:=by simpa using a4
  have E:=zH (show tokR l c r=false by unfold tokR;rw [Bool.eq_false_iff];intro h;simp only [Bool.and_eq_true,decide_eq_true_eq] at h;omega)
  go_enter Tryz.func32,Tryz.ntmps32
  go_wp2_with fail
  go_ret2
  exact ⟨⟨none,by rw [E.out] <;> rfl⟩,by go_grown⟩
 have t4:decide (r < 0)=false:=by simpa using a4
 by_cases a5:l≤r
 ·have t5:decide (l≤r)=true:=by simpa using a5
  have E:=zH (show tokR l c r=false by unfold tokR;rw [Bool.eq_false_iff];intro h;simp only [Bool.and_eq_true,decide_eq_true_eq] at h;omega)
  go_enter Tryz.func32,Tryz.ntmps32
  go_wp2_with fail
  go_ret2
  exact ⟨⟨none,by rw [E.out] <;> rfl⟩,by go_grown⟩
 have t5:decide (l≤r)=false:=by simpa using a5
 have E:=zH (show tokR l c r=true by unfold tokR;simp only [Bool.and_eq_true,decide_eq_true_eq];omega)
 go_enter Tryz.func32,Tryz.ntmps32
 go_wp2_with fail
 go_ret2
 exact ⟨⟨some ⟨w.heap.size,0,none⟩,by rw [E.out] <;> rfl⟩,(Below.refl _ _).alloc (Nat.le_refl _) _⟩
theorem lineNewG (q:Int) (w:World):Calls Tryz.prog 33 #[.int .i64 q] w (RetC (upR q 64) w):=by
 by_cases a0:q < 1
 ·have t0:decide (q < 1)=true:=by simpa using a0
  have E:=zH (show upR q 64=false by unfold upR;rw [Bool.eq_false_iff];intro h;simp only [Bool.and_eq_true,decide_eq_true_eq] at h;omega)
  go_enter Tryz.func33,Tryz.ntmps33
  go_wp2_with fail
  go_ret2
  exact ⟨⟨none,by rw [E.out] <;> rfl⟩,by go_grown⟩
 have t0:decide (q < 1)=false:=by simpa using a0
 by_cases a1:64 < q
 ·have t1:decide (64 < q)=true:=by simpa using a1
  have E:=zH (show upR q 64=false by unfold upR;rw [Bool.eq_false_iff];intro h;simp only [Bool.and_eq_true,decide_eq_true_eq] at h;omega)
  go_enter Tryz.func33,Tryz.ntmps33
  go_wp2_with fail
  go_ret2
  exact ⟨⟨none,by rw [E.out] <;> rfl⟩,by go_grown⟩
 have t1:decide (64 < q)=false:=by simpa using a1
 have E:=zH (show upR q 64=true by unfold upR;simp only [Bool.and_eq_true,decide_eq_true_eq];omega)
 go_enter Tryz.func33,Tryz.ntmps33
 go_wp2_with fail
 go_ret2
 exact ⟨⟨some ⟨w.heap.size,0,none⟩,by rw [E.out] <;> rfl⟩,(Below.refl _ _).alloc (Nat.le_refl _) _⟩
theorem ringNewG (q:Int) (w:World):Calls Tryz.prog 34 #[.int .i64 q] w (RetC (upR q 16) w):=by
 by_cases a0:q < 1
 ·have t0:decide (q < 1)=true:=by simpa using a0
  have E:=zH (show upR q 16=false by unfold upR;rw [Bool.eq_false_iff];intro h;simp only [Bool.and_eq_true,decide_eq_true_eq] at h;omega)
  go_enter Tryz.func34,Tryz.ntmps34
  go_wp2_with fail
  go_ret2
  exact ⟨⟨none,by rw [E.out] <;> rfl⟩,by go_grown⟩
 have t0:decide (q < 1)=false:=by simpa using a0
 by_cases a1:16 < q
 ·have t1:decide (16 < q)=true:=by simpa using a1
  have E:=zH (show upR q 16=false by unfold upR;rw [Bool.eq_false_iff];intro h;simp only [Bool.and_eq_true,decide_eq_true_eq] at h;omega)
  go_enter Tryz.func34,Tryz.ntmps34
  go_wp2_with fail
  go_ret2
  exact ⟨⟨none,by rw [E.out] <;> rfl⟩,by go_grown⟩
 have t1:decide (16 < q)=false:=by simpa using a1
 have E:=zH (show upR q 16=true by unfold upR;simp only [Bool.and_eq_true,decide_eq_true_eq];omega)
 go_enter Tryz.func34,Tryz.ntmps34
 go_wp2_with fail
 go_ret2
 exact ⟨⟨some ⟨w.heap.size,0,none⟩,by rw [E.out] <;> rfl⟩,(Below.refl _ _).alloc (Nat.le_refl _) _⟩
theorem engNewG (l c r q k:Int) (w:World):Calls Tryz.prog 16 #[.agg #[.int .i64 l,.int .i64 c,.int .i64 r,.int .i64 q,.int .i64 k]] w (RetC (cfgR l c r q k) w):=by
 have TN:=zH (fun w=>accNewG l c r w)
 have LN:=zH (fun w=>lineNewG q w)
 have RN:=zH (fun w=>ringNewG k w)
 have SN:=zH (fun w=>storeNew_good 4096 w (by omega) (by omega))
 have CV:=zH (show cfgR l c r q k=(tokR l c r && (upR q 64 && upR k 16)) by unfold cfgR upR;simp only [Bool.and_assoc])
 obtain ⟨x,hx⟩:∃ x,cfgR l c r q k=x:=⟨_,rfl⟩
 obtain ⟨b1,h1⟩:∃ x,tokR l c r=x:=⟨_,rfl⟩
 obtain ⟨b2,h2⟩:∃ x,upR q 64=x:=⟨_,rfl⟩
 obtain ⟨b3,h3⟩:∃ x,upR k 16=x:=⟨_,rfl⟩
 rw [hx,h1,h2,h3] at CV
 simp only [h1,h2,h3] at TN LN RN
 rw [hx]
 unfold RetC at TN LN RN ⊢
 clear hx h1 h2 h3
 have cr0:codeR true=0:=rfl
 have cr2:codeR false=2:=rfl
 have H:=zH (Far.refl w)
 obtain ⟨w1,hw_w1,B1,k1⟩:=nB w #[.int .i64 l,.int .i64 c,.int .i64 r,.int .i64 q,.int .i64 k] 28
 replace H:=zN k1 H B1
 clear B1 k1
 have cA:=fun i=>H.out.2.cell i
 go_enter Tryz.func16,Tryz.ntmps16
 go_wp2_with fail
 refine (TN.out _).mono ?_
 rintro e w2 ⟨⟨p1,rfl⟩,hb⟩
 replace H:=zF hb H
 clear hb hw_w1 cA
 have cA:=fun i=>H.out.2.cell i
 cases b1 with
 | false =>
  go_wp2_with fail
  go_ret2
  exact ⟨⟨none,by rw [CV.out] <;> rfl⟩,H.out.1.out⟩
 | true =>
 go_wp2_with fail
 refine (LN.out _).mono ?_
 rintro e w3 ⟨⟨p2,rfl⟩,hb⟩
 replace H:=zF hb H
 clear hb cA
 have cA:=fun i=>H.out.2.cell i
 cases b2 with
 | false =>
  go_wp2_with fail
  go_ret2
  exact ⟨⟨none,by rw [CV.out] <;> rfl⟩,H.out.1.out⟩
 | true =>
 go_wp2_with fail
 refine (RN.out _).mono ?_
 rintro e w4 ⟨⟨p3,rfl⟩,hb⟩
 replace H:=zF hb H
 clear hb cA
 have cA:=fun i=>H.out.2.cell i
 cases b3 with
 | false =>
  go_wp2_with fail
  go_ret2
  exact ⟨⟨none,by rw [CV.out] <;> rfl⟩,H.out.1.out⟩
 | true =>
 go_wp2_with fail
 refine (SN.out _).mono ?_
 rintro e w5 ⟨rfl,-,hb⟩
 replace H:=zF hb H
 clear hb cA
 have cA:=fun i=>H.out.2.cell i
 go_wp2_with fail
 go_ret2
 exact ⟨⟨some ⟨w5.heap.size,0,none⟩,by rw [CV.out] <;> rfl⟩,H.out.1.out.alloc H.out.1.size _⟩
theorem rtokRight_any (l c r:Int) (w:World):Calls Tryz.prog 22 (sN l c r) w fun e w'=>e=.returned (.bool (tokR l c r))∧Below w.heap.size w w':=by
 by_cases a0:1≤l
 rotate_left
 ·have t0:decide (1≤l)=false:=by simpa using a0
  have E:=zH (show tokR l c r=false by unfold tokR;rw [Bool.eq_false_iff];intro h;simp only [Bool.and_eq_true,decide_eq_true_eq] at h;omega)
  go_enter Tryz.func22,Tryz.ntmps22
  go_wp2_with fail
  go_ret
  exact ⟨by rw [E.out] <;> rfl,by go_grown⟩
 have t0:decide (1≤l)=true:=by simpa using a0
 by_cases a1:l≤1099511627776
 rotate_left
 ·have t1:decide (l≤1099511627776)=false:=by simpa using a1
  have E:=zH (show tokR l c r=false by unfold tokR;rw [Bool.eq_false_iff];intro h;simp only [Bool.and_eq_true,decide_eq_true_eq] at h;omega)
  go_enter Tryz.func22,Tryz.ntmps22
  go_wp2_with fail
  go_ret
  exact ⟨by rw [E.out] <;> rfl,by go_grown⟩
 have t1:decide (l≤1099511627776)=true:=by simpa using a1
 by_cases a2:0≤c
 rotate_left
 ·have t2:decide (0≤c)=false:=by simpa using a2
  have E:=zH (show tokR l c r=false by unfold tokR;rw [Bool.eq_false_iff];intro h;simp only [Bool.and_eq_true,decide_eq_true_eq] at h;omega)
  go_enter Tryz.func22,Tryz.ntmps22
  go_wp2_with fail
  go_ret
  exact ⟨by rw [E.out] <;> rfl,by go_grown⟩
 have t2:decide (0≤c)=true:=by simpa using a2
 by_cases a3:c≤l
 rotate_left
 ·have t3:decide (c≤l)=false:=by simpa using a3
  have E:=zH (show tokR l c r=false by unfold tokR;rw [Bool.eq_false_iff];intro h;simp only [Bool.and_eq_true,decide_eq_true_eq] at h;omega)
  go_enter Tryz.func22,Tryz.ntmps22
  go_wp2_with fail
  go_ret
  exact ⟨by rw [E.out] <;> rfl,by go_grown⟩
 have t3:decide (c≤l)=true:=by simpa using a3
 by_cases a4:0≤r
 rotate_left
 ·have t4:decide (0≤r)=false:=by simpa using a4
  have E:=zH (show tokR l c r=false by unfold tokR;rw [Bool.eq_false_iff];intro h;simp only [Bool.and_eq_true,decide_eq_true_eq] at h;omega)
  go_enter Tryz.func22,Tryz.ntmps22
  go_wp2_with fail
  go_ret
  exact ⟨by rw [E.out] <;> rfl,by go_grown⟩
 have t4:decide (0≤r)=true:=by simpa using a4
 by_cases a5:r < l
 rotate_left
 ·have t5:decide (r < l)=false:=by simpa using a5
  have E:=zH (show tokR l c r=false by unfold tokR;rw [Bool.eq_false_iff];intro h;simp only [Bool.and_eq_true,decide_eq_true_eq] at h;omega)
  go_enter Tryz.func22,Tryz.ntmps22
  go_wp2_with fail
  go_ret
  exact ⟨by rw [E.out] <;> rfl,by go_grown⟩
 have t5:decide (r < l)=true:=by simpa using a5
 have E:=zH (show tokR l c r=true by unfold tokR;simp only [Bool.and_eq_true,decide_eq_true_eq];omega)
 go_enter Tryz.func22,Tryz.ntmps22
 go_wp2_with fail
 go_ret
 exact ⟨by rw [E.out] <;> rfl,by go_grown⟩
theorem rcfgRight_any (l c r q k:Int) (w:World):Calls Tryz.prog 8 #[.agg #[.int .i64 l,.int .i64 c,.int .i64 r,.int .i64 q,.int .i64 k]] w fun e w'=>e=.returned (.bool (cfgR l c r q k))∧Below w.heap.size w w':=by
 have TN:=zH (fun w=>rtokRight_any l c r w)
 obtain ⟨b1,h1⟩:∃ x,tokR l c r=x:=⟨_,rfl⟩
 simp only [h1] at TN
 have CV:=zH (show cfgR l c r q k=(b1 && (decide (1≤q) && (decide (q≤64) && (decide (1≤k) && decide (k≤16))))) by unfold cfgR;rw [h1])
 obtain ⟨x,hx⟩:∃ x,cfgR l c r q k=x:=⟨_,rfl⟩
 rw [hx] at CV
 rw [hx]
 clear hx h1
 have H:=zH (Far.refl w)
 obtain ⟨w1,hw_w1,B1,k1⟩:=nB w #[.int .i64 l,.int .i64 c,.int .i64 r,.int .i64 q,.int .i64 k] 28
 replace H:=zN k1 H B1
 clear B1 k1
 have cA:=fun i=>H.out.2.cell i
 go_enter Tryz.func8,Tryz.ntmps8
 go_wp2_with fail
 refine (TN.out _).mono ?_
 rintro e w2 ⟨rfl,hb⟩
 replace H:=zF hb H
 clear hb hw_w1 cA
 have cA:=fun i=>H.out.2.cell i
 cases b1 with
 | false =>
  go_wp2_with fail
  go_ret
  exact ⟨by rw [CV.out] <;> rfl,H.out.1.out⟩
 | true =>
 by_cases a0:1≤q
 rotate_left
 ·have t0:decide (1≤q)=false:=by simpa using a0
  have E:=zH (show x=false by rw [CV.out,Bool.eq_false_iff];intro h;simp only [Bool.true_and,Bool.and_eq_true,decide_eq_true_eq] at h;omega)
  go_wp2_with fail
  go_ret
  exact ⟨by rw [E.out] <;> rfl,H.out.1.out⟩
 have t0:decide (1≤q)=true:=by simpa using a0
 by_cases a1:q≤64
 rotate_left
 ·have t1:decide (q≤64)=false:=by simpa using a1
  have E:=zH (show x=false by rw [CV.out,Bool.eq_false_iff];intro h;simp only [Bool.true_and,Bool.and_eq_true,decide_eq_true_eq] at h;omega)
  go_wp2_with fail
  go_ret
  exact ⟨by rw [E.out] <;> rfl,H.out.1.out⟩
 have t1:decide (q≤64)=true:=by simpa using a1
 by_cases a2:1≤k
 rotate_left
 ·have t2:decide (1≤k)=false:=by simpa using a2
  have E:=zH (show x=false by rw [CV.out,Bool.eq_false_iff];intro h;simp only [Bool.true_and,Bool.and_eq_true,decide_eq_true_eq] at h;omega)
  go_wp2_with fail
  go_ret
  exact ⟨by rw [E.out] <;> rfl,H.out.1.out⟩
 have t2:decide (1≤k)=true:=by simpa using a2
 have E:=zH (show x=decide (k≤16) by rw [CV.out,t0,t1,t2];simp)
 go_wp2_with fail
 go_ret
 exact ⟨by rw [E.out] <;> rfl,H.out.1.out⟩
end Go.Proofs.YtppcjcigekoipaaGreat
