/-
  The middle of numbers (layer 19): pool.Near, pool.mean, the document's Near, Mean; a tensor laid flat (layer 5).
  The middle of numbers (layer 19): pool.mean, the document's Mean; a tensor laid flat (layer 5: tensor.Flat).
  A tensor of a row under way: its numbers lie where the row's elements may lie, not in the row's own block (for the document's Values).
-/
import Derived.Test.YtmihnoagagbgaaaGreatJ32
set_option linter.unusedVariables false
set_option linter.unusedSimpArgs false
set_option maxRecDepth 100000
set_option maxHeartbeats 16000000
namespace Go.Proofs.YtmihnoagagbgaaaGreat
open Go.RowKit Go.ChangeShapes Go.WideShapes Fx Tryz
set_option maxRecDepth 100000
set_option maxHeartbeats 16000000
def f9 (k m:Nat):Nat:=k / m+if m - k % m≤k % m then 1 else 0
def jv (s:Int) (m:Nat):Int:=if m=0 then 0 else if s < 0 then -(f9 s.natAbs m:Int) else (f9 s.natAbs m:Int)
theorem ms (s:Int) (m:Nat) (w:World) (h1:m≤1024) (h2:-131072≤s) (h3:s≤131072) :
  Calls prog 121 #[.int .i64 s,.int .i64 m] w fun e w'=>e=.returned (.int .i64 (jv s m))∧Below w w w':=by
 unfold jv
 by_cases m0:m=0
 ·rw [if_pos m0]
  subst m0
  go_in
  go_wp2
  go_ret
  exact ⟨rfl,qB _ _⟩
 rw [if_neg m0]
 have mp:¬ (m:Int) < 1:=oM
 have mz:¬ (m:Int)=0:=oM
 obtain ⟨res,hres⟩:∃ r:Int,(if s < 0 then -(f9 s.natAbs m:Int) else (f9 s.natAbs m:Int))=r:=⟨_,rfl⟩
 rw [hres]
 unfold f9 at hres
 by_cases b1:s < 0
 ·rw [if_pos b1] at hres
  obtain ⟨k,rfl⟩:∃ k:Nat,s=-(k:Int):=⟨s.natAbs,by omega⟩
  rw [show (-(k:Int)).natAbs=k by omega] at hres
  obtain ⟨a,ha⟩:∃ a,k / m=a:=⟨_,rfl⟩
  obtain ⟨b,hb⟩:∃ b,k % m=b:=⟨_,rfl⟩
  have ha2:a≤k:=by rw [← ha];exact Nat.div_le_self _ _
  have hb2:b < m:=by rw [← hb];exact Nat.mod_lt _ oM
  have d1:(-(k:Int)).tdiv (m:Int)=-(a:Int):=by rw [Int.neg_tdiv,Int.tdiv_eq_ediv_of_nonneg oM,← ha];simp
  have d2:(-(k:Int)).tmod (m:Int)=-(b:Int):=by rw [Int.neg_tmod,Int.tmod_eq_emod_of_nonneg oM,← hb];simp
  have d3:(k:Int).tdiv (m:Int)=(a:Int):=by rw [Int.tdiv_eq_ediv_of_nonneg oM,← ha];simp
  have d4:(k:Int).tmod (m:Int)=(b:Int):=by rw [Int.tmod_eq_emod_of_nonneg oM,← hb];simp
  have d5:(k:Int) / (m:Int)=(a:Int):=by rw [← ha];simp
  have d6:(k:Int) % (m:Int)=(b:Int):=by rw [← hb];simp
  have e1:IntKind.i64.wrap (-(a:Int))=-(a:Int):=wJ
  have e2:IntKind.i64.wrap (-(b:Int))=-(b:Int):=wJ
  have e3:IntKind.i64.wrap (a:Int)=(a:Int):=wJ
  have e4:IntKind.i64.wrap (b:Int)=(b:Int):=wJ
  have e5:IntKind.i64.wrap ((m:Int) - (b:Int))=(m:Int) - (b:Int):=wJ
  rw [ha,hb] at hres
  clear ha hb
  by_cases c1:m - b≤b
  ·rw [if_pos c1] at hres
   subst hres
   have t1:(m:Int)+-(b:Int)≤(b:Int):=oM
   have t2:(m:Int) - (b:Int)≤(b:Int):=oM
   have t3:¬ (0:Int) < -(b:Int):=oM
   have t4:-(b:Int) < 0:=oM
   have t5:0 < b:=oM
   go_in
   go_wp2_with fail
   go_quiet (fail)
   go_wp2
   go_ret
   exact ⟨by show Ending.returned (.int .i64 _)=_;go_num,am (qB _ _) _⟩
  ·rw [if_neg c1,Nat.add_zero] at hres
   subst hres
   by_cases c2:b=0
   ·subst c2
    have t1:¬ (m:Int)≤0:=oM
    have t2:¬ m≤0:=oM
    simp only [Int.natCast_zero,Int.neg_zero,Int.sub_zero,Int.ofNat_zero] at d2 d4 d6 e2 e4 e5
    go_in
    go_wp2_with fail
    go_quiet (fail)
    go_wp2
    go_ret
    exact ⟨rfl,am (qB _ _) _⟩
   ·have t1:¬ (m:Int)+-(b:Int)≤(b:Int):=oM
    have t2:¬ (m:Int) - (b:Int)≤(b:Int):=oM
    have t3:¬ (0:Int) < -(b:Int):=oM
    have t4:-(b:Int) < 0:=oM
    have t5:0 < b:=oM
    go_in
    go_wp2_with fail
    go_quiet (fail)
    go_wp2
    go_ret
    exact ⟨rfl,am (qB _ _) _⟩
 ·rw [if_neg b1] at hres
  obtain ⟨k,rfl⟩:∃ k:Nat,s=(k:Int):=⟨s.natAbs,by omega⟩
  rw [show ((k:Int)).natAbs=k by omega] at hres
  obtain ⟨a,ha⟩:∃ a,k / m=a:=⟨_,rfl⟩
  obtain ⟨b,hb⟩:∃ b,k % m=b:=⟨_,rfl⟩
  have ha2:a≤k:=by rw [← ha];exact Nat.div_le_self _ _
  have hb2:b < m:=by rw [← hb];exact Nat.mod_lt _ oM
  have d3:(k:Int).tdiv (m:Int)=(a:Int):=by rw [Int.tdiv_eq_ediv_of_nonneg oM,← ha];simp
  have d4:(k:Int).tmod (m:Int)=(b:Int):=by rw [Int.tmod_eq_emod_of_nonneg oM,← hb];simp
  have d5:(k:Int) / (m:Int)=(a:Int):=by rw [← ha];simp
  have d6:(k:Int) % (m:Int)=(b:Int):=by rw [← hb];simp
  have e3:IntKind.i64.wrap (a:Int)=(a:Int):=wJ
  have e4:IntKind.i64.wrap (b:Int)=(b:Int):=wJ
  have e5:IntKind.i64.wrap ((m:Int) - (b:Int))=(m:Int) - (b:Int):=wJ
  rw [ha,hb] at hres
  clear ha hb
  by_cases c1:m - b≤b
  ·rw [if_pos c1] at hres
   subst hres
   have t2:(m:Int) - (b:Int)≤(b:Int):=oM
   have t5:0 < b:=oM
   go_in
   go_wp2_with fail
   go_quiet (fail)
   go_wp2
   go_ret
   exact ⟨by show Ending.returned (.int .i64 _)=_;go_num,am (qB _ _) _⟩
  ·rw [if_neg c1,Nat.add_zero] at hres
   subst hres
   by_cases c2:b=0
   ·subst c2
    have t1:¬ (m:Int)≤0:=oM
    have t2:¬ m≤0:=oM
    simp only [Int.natCast_zero,Int.neg_zero,Int.sub_zero,Int.ofNat_zero] at d4 d6 e4 e5
    go_in
    go_wp2_with fail
    go_quiet (fail)
    go_wp2
    go_ret
    exact ⟨rfl,am (qB _ _) _⟩
   ·have t2:¬ (m:Int) - (b:Int)≤(b:Int):=oM
    have t5:0 < b:=oM
    have t6:¬ (b:Int) < 0:=oM
    go_in
    go_wp2_with fail
    go_quiet (fail)
    go_wp2
    go_ret
    exact ⟨rfl,am (qB _ _) _⟩
theorem lk (s:Int) (m:Nat) (w:World) (h1:m≤1024) (h2:-131072≤s) (h3:s≤131072) :
  Calls prog 96 #[.int .i64 s,.int .i64 m] w fun e w'=>e=.returned (.int .i64 (jv s m))∧Below w w w':=by
 unfold jv
 by_cases m0:m=0
 ·rw [if_pos m0]
  subst m0
  go_in
  go_wp2
  go_ret
  exact ⟨rfl,qB _ _⟩
 rw [if_neg m0]
 have mp:¬ (m:Int) < 1:=oM
 have mz:¬ (m:Int)=0:=oM
 obtain ⟨res,hres⟩:∃ r:Int,(if s < 0 then -(f9 s.natAbs m:Int) else (f9 s.natAbs m:Int))=r:=⟨_,rfl⟩
 rw [hres]
 unfold f9 at hres
 by_cases b1:s < 0
 ·rw [if_pos b1] at hres
  obtain ⟨k,rfl⟩:∃ k:Nat,s=-(k:Int):=⟨s.natAbs,by omega⟩
  rw [show (-(k:Int)).natAbs=k by omega] at hres
  obtain ⟨a,ha⟩:∃ a,k / m=a:=⟨_,rfl⟩
  obtain ⟨b,hb⟩:∃ b,k % m=b:=⟨_,rfl⟩
  have ha2:a≤k:=by rw [← ha];exact Nat.div_le_self _ _
  have hb2:b < m:=by rw [← hb];exact Nat.mod_lt _ oM
  have d1:(-(k:Int)).tdiv (m:Int)=-(a:Int):=by rw [Int.neg_tdiv,Int.tdiv_eq_ediv_of_nonneg oM,← ha];simp
  have d2:(-(k:Int)).tmod (m:Int)=-(b:Int):=by rw [Int.neg_tmod,Int.tmod_eq_emod_of_nonneg oM,← hb];simp
  have d3:(k:Int).tdiv (m:Int)=(a:Int):=by rw [Int.tdiv_eq_ediv_of_nonneg oM,← ha];simp
  have d4:(k:Int).tmod (m:Int)=(b:Int):=by rw [Int.tmod_eq_emod_of_nonneg oM,← hb];simp
  have d5:(k:Int) / (m:Int)=(a:Int):=by rw [← ha];simp
  have d6:(k:Int) % (m:Int)=(b:Int):=by rw [← hb];simp
  have e1:IntKind.i64.wrap (-(a:Int))=-(a:Int):=wJ
  have e2:IntKind.i64.wrap (-(b:Int))=-(b:Int):=wJ
  have e3:IntKind.i64.wrap (a:Int)=(a:Int):=wJ
  have e4:IntKind.i64.wrap (b:Int)=(b:Int):=wJ
  have e5:IntKind.i64.wrap ((m:Int) - (b:Int))=(m:Int) - (b:Int):=wJ
  rw [ha,hb] at hres
  clear ha hb
  by_cases c1:m - b≤b
  ·rw [if_pos c1] at hres
   subst hres
   have t1:(m:Int)+-(b:Int)≤(b:Int):=oM
   have t2:(m:Int) - (b:Int)≤(b:Int):=oM
   have t3:¬ (0:Int) < -(b:Int):=oM
   have t4:-(b:Int) < 0:=oM
   have t5:0 < b:=oM
   go_in
   go_wp2_with fail
   go_quiet (fail)
   go_wp2
   go_ret
   exact ⟨by show Ending.returned (.int .i64 _)=_;go_num,am (qB _ _) _⟩
  ·rw [if_neg c1,Nat.add_zero] at hres
   subst hres
   by_cases c2:b=0
   ·subst c2
    have t1:¬ (m:Int)≤0:=oM
    have t2:¬ m≤0:=oM
    simp only [Int.natCast_zero,Int.neg_zero,Int.sub_zero,Int.ofNat_zero] at d2 d4 d6 e2 e4 e5
    go_in
    go_wp2_with fail
    go_quiet (fail)
    go_wp2
    go_ret
    exact ⟨rfl,am (qB _ _) _⟩
   ·have t1:¬ (m:Int)+-(b:Int)≤(b:Int):=oM
    have t2:¬ (m:Int) - (b:Int)≤(b:Int):=oM
    have t3:¬ (0:Int) < -(b:Int):=oM
    have t4:-(b:Int) < 0:=oM
    have t5:0 < b:=oM
    go_in
    go_wp2_with fail
    go_quiet (fail)
    go_wp2
    go_ret
    exact ⟨rfl,am (qB _ _) _⟩
 ·rw [if_neg b1] at hres
  obtain ⟨k,rfl⟩:∃ k:Nat,s=(k:Int):=⟨s.natAbs,by omega⟩
  rw [show ((k:Int)).natAbs=k by omega] at hres
  obtain ⟨a,ha⟩:∃ a,k / m=a:=⟨_,rfl⟩
  obtain ⟨b,hb⟩:∃ b,k % m=b:=⟨_,rfl⟩
  have ha2:a≤k:=by rw [← ha];exact Nat.div_le_self _ _
  have hb2:b < m:=by rw [← hb];exact Nat.mod_lt _ oM
  have d3:(k:Int).tdiv (m:Int)=(a:Int):=by rw [Int.tdiv_eq_ediv_of_nonneg oM,← ha];simp
  have d4:(k:Int).tmod (m:Int)=(b:Int):=by rw [Int.tmod_eq_emod_of_nonneg oM,← hb];simp
  have d5:(k:Int) / (m:Int)=(a:Int):=by rw [← ha];simp
  have d6:(k:Int) % (m:Int)=(b:Int):=by rw [← hb];simp
  have e3:IntKind.i64.wrap (a:Int)=(a:Int):=wJ
  have e4:IntKind.i64.wrap (b:Int)=(b:Int):=wJ
  have e5:IntKind.i64.wrap ((m:Int) - (b:Int))=(m:Int) - (b:Int):=wJ
  rw [ha,hb] at hres
  clear ha hb
  by_cases c1:m - b≤b
  ·rw [if_pos c1] at hres
   subst hres
   have t2:(m:Int) - (b:Int)≤(b:Int):=oM
   have t5:0 < b:=oM
   go_in
   go_wp2_with fail
   go_quiet (fail)
   go_wp2
   go_ret
   exact ⟨by show Ending.returned (.int .i64 _)=_;go_num,am (qB _ _) _⟩
  ·rw [if_neg c1,Nat.add_zero] at hres
   subst hres
   by_cases c2:b=0
   ·subst c2
    have t1:¬ (m:Int)≤0:=oM
    have t2:¬ m≤0:=oM
    simp only [Int.natCast_zero,Int.neg_zero,Int.sub_zero,Int.ofNat_zero] at d4 d6 e4 e5
    go_in
    go_wp2_with fail
    go_quiet (fail)
    go_wp2
    go_ret
    exact ⟨rfl,am (qB _ _) _⟩
   ·have t2:¬ (m:Int) - (b:Int)≤(b:Int):=oM
    have t5:0 < b:=oM
    have t6:¬ (b:Int) < 0:=oM
    go_in
    go_wp2_with fail
    go_quiet (fail)
    go_wp2
    go_ret
    exact ⟨rfl,am (qB _ _) _⟩
def fx (l:List Int) (n:Nat):Int:=az n fun i=>l.getD i 0
def cP (l:List Int):Int:=w8 (jv (fx l l.length) l.length)
theorem mi (l:List Int):InK .i8 (cP l):=jM _
theorem oV {l:List Int} (h:∀ i,InK .i8 (l.getD i 0)) (n:Nat):(fx l n).natAbs≤n*128:=jT fun i _=>by have:=h i;rw [aT] at this;omega
theorem mr (A:QA) (n cap:Nat) (l:List Int) (w:World) (hl:xA w A n cap l) (hn:n≤1024) :
  Calls prog 84 #[.slice A n cap] w fun e w'=>e=.returned (.int .i8 (cP l))∧Below w w w':=by
 have H:=zH hl
 unfold cP
 rw [hl.n_eq]
 have LE:=zH (fun k=>oV (fun i=>hl.allK i) k)
 clear hl
 go_in
 go_wp2
 go_loopw [3,8] (fun u ii wr=>∃ k:Nat,k≤n∧ii=.int .i64 k∧u=.int .i64 (fx l k)∧w=wr) (fun _ ii _=>n - (intOf ii).toNat)
 case atStart=>exact ⟨0,zl _,rfl,rfl,rfl⟩
 case round =>
  obtain ⟨k,hk,rfl,rfl,rfl⟩:=hrel
  have b1:=LE.o k
  by_cases hlt:k < n
  ·have p1:(k:Int) < (n:Int):=oM
   have b2:=LE.o (k+1)
   obtain ⟨b,o,rfl,-,-,cx,ix⟩:=H.o.int_at k hlt
   have hs:fx l (k+1)=fx l k+l.getD k 0:=rfl
   obtain ⟨x,hx⟩:∃ x,l.getD k 0=x:=⟨_,rfl⟩
   rw [hx] at cx ix hs
   rw [aT] at ix
   obtain ⟨i1,i2⟩:=ix
   have HS:=zH hs
   obtain ⟨sv,hsv⟩:∃ x,fx l k=x:=⟨_,rfl⟩
   rw [hsv] at b1 HS ⊢
   clear hx hs hsv
   go_wp2
   exact ⟨⟨k+1,by omega,by go_num,by rw [HS.o],by trivial⟩,by simp [intOf];omega⟩
  ·obtain rfl:k=n:=oM
   have NE:=zH (fun w=>ms (fx l k) k w hn oM oM)
   go_wp2_with (go_at_call 121;refine qM (NE.o _) fun w2 hb=>?_)
   go_ret
   exact ⟨rfl,hb⟩
theorem lj (A:QA) (n cap:Nat) (l:List Int) (w:World) (hl:xA w A n cap l) (hn:n≤1024) :
  Calls prog 62 #[.slice A n cap] w fun e w'=>e=.returned (.int .i8 (cP l))∧Below w w w':=by
 have H:=zH hl
 unfold cP
 rw [hl.n_eq]
 have LE:=zH (fun k=>oV (fun i=>hl.allK i) k)
 clear hl
 go_in
 go_wp2
 go_loopw [3,4] (fun u ii wr=>∃ k:Nat,k≤n∧ii=.int .i64 k∧u=.int .i64 (fx l k)∧w=wr) (fun _ ii _=>n - (intOf ii).toNat)
 case atStart=>exact ⟨0,zl _,rfl,rfl,rfl⟩
 case round =>
  obtain ⟨k,hk,rfl,rfl,rfl⟩:=hrel
  have b1:=LE.o k
  by_cases hlt:k < n
  ·have p1:(k:Int) < (n:Int):=oM
   have b2:=LE.o (k+1)
   obtain ⟨b,o,rfl,-,-,cx,ix⟩:=H.o.int_at k hlt
   have hs:fx l (k+1)=fx l k+l.getD k 0:=rfl
   obtain ⟨x,hx⟩:∃ x,l.getD k 0=x:=⟨_,rfl⟩
   rw [hx] at cx ix hs
   rw [aT] at ix
   obtain ⟨i1,i2⟩:=ix
   have HS:=zH hs
   obtain ⟨sv,hsv⟩:∃ x,fx l k=x:=⟨_,rfl⟩
   rw [hsv] at b1 HS ⊢
   clear hx hs hsv
   go_wp2
   exact ⟨⟨k+1,by omega,by go_num,by rw [HS.o],by trivial⟩,by simp [intOf];omega⟩
  ·obtain rfl:k=n:=oM
   have NE:=zH (fun w=>lk (fx l k) k w hn oM oM)
   go_wp2_with (go_at_call 96;refine qM (NE.o _) fun w2 hb=>?_)
   go_ret
   exact ⟨rfl,hb⟩
theorem jV (t:ae) (A:QA) (n cap:Nat) (w:World) (ht:ak t) (ha:xA w A n cap t.data) (c1:t.ok=true) :
  Calls prog 50 #[.agg (tN t.h t.v t.c A n cap)] w (ar .i8 ⟨1,1,n,t.data⟩ 0 w):=by
 have HA:=zH ha
 obtain ⟨H,V,C,TK⟩:=cY c1
 have hn2:n≤1024:=by have:=TK.n_le;rw [ha.n_eq] at this;exact this
 have c1':decide (0 < ab t.h t.v t.c∧ab t.h t.v t.c=n)=true:=by rw [← HA.o.n_eq];simpa [ae.ok] using c1
 have RI:=zH (fun w=>av t.h t.v t.c A n cap w ht.h ht.v ht.c (lT ha.cap_le ha.max_le))
 rw [c1'] at RI
 have mx:n≤9223372036854775807:=oM
 have FR:=zW w
 obtain ⟨w1,w2,yw1,yw2,l1,_,BA,BR,yk2⟩:=bk2 w (tN t.h t.v t.c A n cap) 27 (tN 0 0 0 none 0 0) 27
 replace FR:=zF yk2 FR
 clear yk2
 clear ht ha c1 c1' TK
 go_in
 go_wp2_with (first|(refine lGJ19 BA.o ?_)|(go_at_call 11;refine qM (RI.o _) fun w4 hb=>?_;have l4:=hb.size;obtain ⟨FR,BA,BR⟩:=uz3 hb FR BA BR;clear hb yw1 yw2))
 have fd:Below w w w4.drew:=FR.u.drew
 refine aJ (fun w'=>w'.cell? ⟨w.heap.size,3,none⟩=some (.slice A n cap)∧Below w4.drew.heap.size w4.drew w') 8 kM ?_ (fun hS=>?_)
 ·exact ⟨BA.o.drew.cell 3,qB _ _⟩
 refine kT' 0 hS ?_
 refine kT' 1 hS ?_
 refine kT' 2 hS ?_
 refine kT' 3 hS ?_
 refine kT' 4 hS ?_
 refine kT' 5 hS ?_
 refine rT 6 (fun K hK=>?_)
 go_simp
 refine (eF A n cap t.data _ ((Old.now HA.o).fut fd).all oM).mono ?_;rintro e wm ⟨RA,rn,rc,rfl,rs,hb⟩
 refine xK hK (zR hb hS) fun hS=>?_
 clear hK K
 refine kT' 7 hS ?_
 refine wpAnyT_tail _ _ rfl rfl kM ?_
 have kd:=(show Below w4 w4 w4.drew from (qB _ _).drew).trans hb
 have RS:=zH (show New w4 (aa .i8) wm RA rn rc t.data from ⟨rs⟩)
 have BR5:=zH (BR.o.fut kd)
 have lfr:=FR.o.size
 replace FR:=zF kd FR
 have lbr:=BR.o.lt
 clear hS hb rs kd
 go_wp2_with (refine sGJ19 (tN 1 1 n RA rn rc) BR5.o ?_;intro w9 B9 g9)
 refine rG B9 ?_
 exact ⟨RA,rn,rc,rfl,(RS.o.away g9 lbr).out.more (aO lfr (lR _)),(FR.o.away g9 oM).out⟩
end Go.Proofs.YtmihnoagagbgaaaGreat
namespace Go.Proofs.YtmihnoagagbgaaaGreat
open Go.RowKit Go.ChangeShapes Go.WideShapes Tryz
set_option maxRecDepth 100000
set_option maxHeartbeats 16000000
theorem Own.tensor_at {w:World} {S:Nat → Prop} {base:Nat} {E:TypeId} {A:QA} {n cap:Nat} {l:List ae} (h:Own dE w S base E (.slice A n cap) n l) (i:Nat) (hi:i < n) :
  ∃ t g D m c,l[i]?=some t∧A=some ⟨g,0,none⟩∧g < w.heap.size∧base≤g∧ak t∧Sl (aa .i8) w S D m c t.data∧w.rangeAt g (i*4) [.int .i64 t.h,.int .i64 t.v,.int .i64 t.c,.slice D m c]:=by
 obtain ⟨vs,h1,h2⟩:=h.out
 have hlen:=h.length dM
 have hx:l[i]?=some (l[i]'oM):=List.getElem?_eq_getElem oM
 obtain ⟨xs,h3,h4⟩:=h2.at_ i _ hx
 obtain ⟨D,m,c,rfl,ht,hs⟩:=s6 h3
 rcases h1.2 with ⟨e,e2⟩|⟨g,k,cur,e,hb,hh,-⟩
 ·exfalso;injection e with _ e3;omega
 ·injection e with e e3 e4
  subst e
  have h7:=h.lt g rfl
  refine ⟨_,g,D,m,c,hx,rfl,h7.2,hb,ht,hs,fun j v hv=>?_⟩
  have hj:j < 4:=(List.getElem?_eq_some_iff.1 hv).1
  have h5:=h4 j v hv
  rw [fV] at h5
  have h6:=h1.cellAt (i*4+j) (by rw [fV];omega)
  rw [h6];exact h5
end Go.Proofs.YtmihnoagagbgaaaGreat
