/- Which exit of an input's path answers (layer 38), as plain lists: some exit does; the later one is late, the later it stands; what was spent up to it. -/
import Derived.Test.YtbecbfpoahhpnaaGreatKP01
import Derived.Test.YtbecbfpoahhpnaaGreatKP03
set_option linter.unusedVariables false
set_option linter.unusedSimpArgs false
set_option maxRecDepth 100000
set_option maxHeartbeats 16000000
namespace Go.Proofs.YtbecbfpoahhpnaaGreat
open Go.RowKit Tryz
theorem Fi (e last late:Bool):EE e last late=0 ∨ EE e last late=1 ∨ EE e last late=2 ∨ EE e last late=3:=by
 cases e <;> cases last <;> cases late <;> simp [EE]
theorem Fz (e last:Bool):EE e last false=0 ∨ EE e last false=1 ∨ EE e last false=2:=by
 cases e <;> cases last <;> simp [EE]
theorem EH {l:List Exit} {late:Int}:∀ (m k:Nat),k+m=l.length → 1≤m → ∃ (i:Nat) (d:Exit),k≤i∧l[i]?=some d∧EC l.length late (l.drop k) k=((i:Int),EA l.length late d i)∧EA l.length late d i ≠ 0∧∀ j x,k≤j → j < i → l[j]?=some x → EA l.length late x j=0
 | 0,k,_,h=>absurd h dM
 | m+1,k,hk,_=>by
  obtain ⟨d,t⟩:∃ d,l[k]?=some d:=⟨_,List.getElem?_eq_getElem oM⟩;rw [ER t];by_cases c:EA l.length late d k=0
  ·rw [if_pos c];have w:1≤m:=by
    rcases Nat.eq_zero_or_pos m with h|h
    ·exfalso;subst h;have e:((k:Int) == (l.length:Int) - 1)=true:=sO;unfold EA at c;rw [e] at c;unfold EE at c;split at c
     ·cases c
     ·rw [if_pos rfl] at c;cases c
    ·exact h
   obtain ⟨i,x,p,n,s,r,f⟩:=EH (l:=l) (late:=late) m (k+1) oM w;exact ⟨i,x,by omega,n,s,r,fun j y a b o=>by
    rcases Nat.lt_or_ge k j with q|q
    ·exact f j y q b o
    ·obtain rfl:j=k:=oM;rw [t] at o;cases o;exact c⟩
  ·rw [if_neg c];exact ⟨k,d,lR _,t,rfl,c,fun j x a b _=>by omega⟩
theorem Ff {n:Nat} {s e:Int} {d:Exit} {i:Nat} (r:ED e d=true → ED s d=true) (h:EA n e d i ≠ 0):EA n s d i ≠ 0:=by
 intro c;apply h;unfold EA EE at *;by_cases t:d.v.enough=true
 ·rw [if_pos t] at c;cases c
 ·rw [if_neg t] at c ⊢;by_cases a:((i:Int) == (n:Int) - 1)=true
  ·rw [if_pos a] at c;cases c
  ·rw [if_neg a] at c ⊢;by_cases o:ED e d=true
   ·rw [if_pos (r o)] at c;cases c
   ·rw [if_neg o]
theorem Fg {l:List Exit} (h:1≤l.length) {a:Int} (F:0≤a):∃ (i k j:Nat) (r c t:Int) (d:Exit),EC l.length a l 0=((i:Int),r)∧EC l.length (a+1) l 0=((k:Int),c)∧EC l.length (-1) l 0=((j:Int),t)∧i≤k∧k≤j∧j < l.length∧1≤r∧1≤c∧1≤t∧t≤2∧l[i]?=some d:=by
 obtain ⟨i,o,-,g,m,x,z⟩:=EH (l:=l) (late:=a) l.length 0 oM h;obtain ⟨k,n,-,A,f,w,B⟩:=EH (l:=l) (late:=a+1) l.length 0 oM h;obtain ⟨j,s,-,y,p,c4,E⟩:=EH (l:=l) (late:=-1) l.length 0 oM h;rw [List.drop_zero] at m f p;have C:i≤k:=by
  rcases Nat.lt_or_ge k i with q|q
  ·exact absurd (z k n (zl _) q A) (Ff (fun e=>by unfold ED at *;simp only [Bool.and_eq_true,decide_eq_true_eq] at *;omega) w)
  ·exact q
 have D:k≤j:=by
  rcases Nat.lt_or_ge j k with q|q
  ·exact absurd (B j s (zl _) q y) (Ff (fun e=>by unfold ED at *;simp only [Bool.and_eq_true,decide_eq_true_eq] at *;omega) c4)
  ·exact q
 have b:ED (-1) s=false:=by unfold ED;simp
 have r:=Fi o.v.enough ((i:Int) == (l.length:Int) - 1) (ED a o);have c:=Fi n.v.enough ((k:Int) == (l.length:Int) - 1) (ED (a+1) n);have t:=Fz s.v.enough ((j:Int) == (l.length:Int) - 1);unfold EA at x w c4;rw [b] at c4;refine ⟨i,k,j,_,_,_,o,m,f,p,C,D,(List.getElem?_eq_some_iff.1 y).1,?_,?_,?_,?_,g⟩ <;> unfold EA <;> (try rw [b]) <;> omega
theorem Fb {u:Bun} {t:ae} {d:Exit}:∀ {i:Nat},d ∈ exU u t i → ∃ q,q < i∧d=exW u t q
 | 0,h=>by cases h
 | i+1,h=>by
  unfold exU at h;split at h
  ·rcases List.mem_append.1 h with h|h
   ·obtain ⟨q,a,b⟩:=Fb h;exact ⟨q,by omega,b⟩
   ·exact ⟨i,by omega,by simpa using h⟩
  ·obtain ⟨q,a,b⟩:=Fb h;exact ⟨q,by omega,b⟩
theorem Fw {u:Bun} (h:dn u) (t:ae):1≤(exU u t (bZ u)).length:=by
 have m:=mK h;obtain ⟨i,hi⟩:∃ i,bZ u=i+1:=⟨bZ u - 1,by omega⟩;have o:=mO h;obtain ⟨a,c⟩:=lY h (i:=i) oM;rw [hi] at o ⊢;have s:ap u (i+1)=if (ap u i).2+1=dH u (ap u i).1 then ((ap u i).1+1,0) else ((ap u i).1,(ap u i).2+1):=rfl
 have l:(ap u i).2+1=dH u (ap u i).1:=by
  by_cases q:(ap u i).2+1=dH u (ap u i).1
  ·exact q
  ·rw [s,if_neg q] at o;have:=congrArg Prod.snd o;simp only at this;omega
 have r:(nM u (ap u i).1 (ap u i).2).exit=true:=by
  have n:=(h.models _ a).blocks _ c;have e:=n.exit;unfold eY at e;have d:(((ap u i).2:Int) == ((u.models.getD (ap u i).1 []).length:Int) - 1)=true:=by
   unfold dH at l;rw [beq_iff_eq];omega
  rw [d] at e;by_cases q:((u.models.getD (ap u i).1 []).getD (ap u i).2 eA).exit=false
  ·rw [if_pos q,if_pos (.inl rfl)] at e;cases e
  ·unfold nM;simpa using q
 unfold exU;rw [if_pos r,List.length_append];simp
theorem Gc {u:Bun} (h:dn u) {a b:Nat} (s:a < u.models.length) (d:b < dH u a):ap u (sumW u a+b)=(a,b):=by
 have m:sumW u (a+1)=sumW u a+dH u a:=rfl;have c:=Ai u (show a+1≤u.models.length from s);have e:bZ u=sumW u u.models.length:=rfl;obtain ⟨t,o⟩:=lY h (i:=sumW u a+b) oM;obtain ⟨n,-,-,-⟩:=ub h (sumW u a+b) oM;obtain ⟨⟨k,j⟩,r⟩:∃ p,ap u (sumW u a+b)=p:=⟨_,rfl⟩;rw [r] at t o n ⊢;simp only at t o n;have l:sumW u (k+1)=sumW u k+dH u k:=rfl;rcases Nat.lt_trichotomy k a with q|q|q
 ·have:=Ai u (show k+1≤a from q);omega
 ·subst q;obtain rfl:j=b:=oM;rfl
 ·have:=Ai u (show a+1≤k from q);omega
theorem Fn {u:Bun} (h:dn u) {a b:Nat} {r:List Int} (t:(aO u)[a]?=some r) (i:b < r.length):cI u (sumW u a+b+1)=cI u (sumW u a+b)+r.getD b 0:=by
 have o:a < u.models.length:=by rw [← mS];exact (List.getElem?_eq_some_iff.1 t).1
 obtain ⟨m,n⟩:∃ m,u.models[a]?=some m:=⟨_,List.getElem?_eq_getElem o⟩;have e:=iX n;rw [t] at e;cases e;have d:b < dH u a:=by rw [jo n];unfold dW at i;simpa using i
 have s:cI u (sumW u a+b+1)=cI u (sumW u a+b)+gG u (ap u (sumW u a+b)).1 (ap u (sumW u a+b)).2:=rfl;rw [s,Gc h o d];unfold gG;rw [aX t]
theorem FY {u:Bun} {a:Nat} {r:List Int} (o:(aO u)[a]?=some r):r.length=dH u a:=by
 have i:a < u.models.length:=by rw [← mS];exact (List.getElem?_eq_some_iff.1 o).1
 obtain ⟨m,t⟩:∃ m,u.models[a]?=some m:=⟨_,List.getElem?_eq_getElem i⟩;have e:=iX t;rw [o] at e;cases e;rw [jo t];unfold dW;simp
end Go.Proofs.YtbecbfpoahhpnaaGreat
