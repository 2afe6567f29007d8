/-
  Sums (layers 16, 17, 10): lane.Of, depth.Of, the document's, whatever the tensor.
  Windows as rows (layers 12, 14): a row of the windows times a row of weights is the window's sum.
  Numbers of eight bits that an iterator hands out, gathered (slices.AppendSeq, slices.Collect); those of a window (layer 19).
  The least and the greatest number (layer 5, the document's Reach).
  The greatest number (layer 19: pool.greatest, slices.Max).
  Room around a tensor (layer 9): the document's Move, by the same number of rows and columns.
  Room around a tensor (layer 9): the document's Resize, of a tensor that is right.
  Room around a tensor (layer 9): the function of pad.resized.
  slices.Clone at []int; rows of numbers that are alike (layer 22's Same).
-/
import Derived.Test.YtmihnoagagbgaaaGreatJ23
import Derived.Test.YtmihnoagagbgaaaGreatJ29
import Derived.Test.YtmihnoagagbgaaaGreatJ25
import Derived.Test.YtmihnoagagbgaaaGreatJ26
import Derived.Test.YtmihnoagagbgaaaGreatJ32
set_option linter.unusedVariables false
set_option linter.unusedSimpArgs false
set_option maxRecDepth 100000
set_option maxHeartbeats 16000000
namespace Go.Proofs.YtmihnoagagbgaaaGreat
open Go.RowKit Go.ChangeShapes Go.WideShapes Tryz
set_option maxRecDepth 100000
set_option maxHeartbeats 16000000
theorem pv (t:ae) (A:QA) (n cap:Nat) (d:af) (W:QA) (nw cw:Nat) (B:QA) (nb cb:Nat) (w:World) (ht:ak t) (hd:aE d)
  (ha:xA w A n cap t.data) (hw:xA w W nw cw d.w) (hb:xB w B nb cb d.bias) (mw:nw≤2000∧nb≤200) (hk3:d.k=3) (hs1:d.s=1) :
  Calls prog 129 #[.agg (tN t.h t.v t.c A n cap),.agg (nD d W nw cw B nb cb)] w (ar .i32 (aS t d).1 (aS t d).2 w):=by
 by_cases c1:t.ok=true
 ·by_cases c2:(aN t.h t.v t.c d).2=0
  ·exact ut t A n cap d W nw cw B nb cb w ht hd ha hw hb mw c1 c2 hk3 hs1
  ·have e:aS t d=(aj,(aN t.h t.v t.c d).2):=by unfold aS;rw [if_pos c1,if_neg c2]
   rw [e];exact nE t A n cap d W nw cw B nb cb w ht hd ha hw hb oM c1 c2
 ·have e:aS t d=(aj,5):=by unfold aS;rw [if_neg c1]
  rw [e];exact pw t A n cap d W nw cw B nb cb w ht hd ha hw hb c1
theorem nk (t:ae) (A:QA) (n cap:Nat) (d:af) (W:QA) (nw cw:Nat) (B:QA) (nb cb:Nat) (w:World) (ht:ak t) (hd:aE d)
  (ha:xA w A n cap t.data) (hw:xA w W nw cw d.w) (hb:xB w B nb cb d.bias) (mw:nw≤2000∧nb≤200) :
  Calls prog 131 #[.agg (tN t.h t.v t.c A n cap),.agg (nD d W nw cw B nb cb)] w (ar .i32 (aY t d).1 (aY t d).2 w):=by
 by_cases c1:t.ok=true
 ·by_cases c2:(aM t.h t.v t.c d).2=0
  ·exact lO t A n cap d W nw cw B nb cb w ht hd ha hw hb mw c1 c2
  ·have e:aY t d=(aj,(aM t.h t.v t.c d).2):=by unfold aY;rw [if_pos c1,if_neg c2]
   rw [e];exact lN t A n cap d W nw cw B nb cb w ht hd ha hw hb oM c1 c2
 ·have e:aY t d=(aj,5):=by unfold aY;rw [if_neg c1]
  rw [e];exact nl t A n cap d W nw cw B nb cb w ht hd ha hw hb c1
theorem n8 (t:ae) (A:QA) (n cap:Nat) (d:af) (W:QA) (nw cw:Nat) (B:QA) (nb cb:Nat) (w:World) (ht:ak t) (hd:aE d)
  (ha:xA w A n cap t.data) (hw:xA w W nw cw d.w) (hb:xB w B nb cb d.bias) (mw:nw≤2000∧nb≤200) :
  Calls prog 66 #[.agg (tN t.h t.v t.c A n cap),.agg (nD d W nw cw B nb cb)] w (ar .i32 (aS t d).1 (aS t d).2 w):=by
 by_cases c1:t.ok=true
 ·by_cases c2:(aN t.h t.v t.c d).2=0
  ·exact mB t A n cap d W nw cw B nb cb w ht hd ha hw hb mw c1 c2
  ·have e:aS t d=(aj,(aN t.h t.v t.c d).2):=by unfold aS;rw [if_pos c1,if_neg c2]
   rw [e];exact mA t A n cap d W nw cw B nb cb w ht hd ha hw hb oM c1 c2
 ·have e:aS t d=(aj,5):=by unfold aS;rw [if_neg c1]
  rw [e];exact oc t A n cap d W nw cw B nb cb w ht hd ha hw hb c1
theorem mH (t:ae) (A:QA) (n cap:Nat) (d:af) (W:QA) (nw cw:Nat) (B:QA) (nb cb:Nat) (w:World) (ht:ak t) (hd:aE d)
  (ha:xA w A n cap t.data) (hw:xA w W nw cw d.w) (hb:xB w B nb cb d.bias) (mw:nw≤2000∧nb≤200) :
  Calls prog 67 #[.agg (tN t.h t.v t.c A n cap),.agg (nD d W nw cw B nb cb)] w (ar .i32 (aY t d).1 (aY t d).2 w):=by
 by_cases c1:t.ok=true
 ·by_cases c2:(aM t.h t.v t.c d).2=0
  ·exact kU t A n cap d W nw cw B nb cb w ht hd ha hw hb mw c1 c2
  ·have e:aY t d=(aj,(aM t.h t.v t.c d).2):=by unfold aY;rw [if_pos c1,if_neg c2]
   rw [e];exact kS t A n cap d W nw cw B nb cb w ht hd ha hw hb oM c1 c2
 ·have e:aY t d=(aj,5):=by unfold aY;rw [if_neg c1]
  rw [e];exact mI t A n cap d W nw cw B nb cb w ht hd ha hw hb c1
end Go.Proofs.YtmihnoagagbgaaaGreat
namespace Go.Proofs.YtmihnoagagbgaaaGreat
open Tryz
theorem pL (H V C:Nat) (l w:List Int) (za:Int) (K S P Wo i o:Nat) (hw:0 < K*K*C) :
  (az (K*K*C) fun k=>cX H V C l za K S P Wo (i*(K*K*C)+k)*w.getD (o*(K*K*C)+k) 0)=ec H V C l za w K S P o (i / Wo) (i % Wo):=by
 unfold ec
 refine dg fun k hk=>?_
 have dv:(i*(K*K*C)+k) / (K*K*C)=i:=by rw [Nat.mul_comm,Nat.mul_add_div hw,Nat.div_eq_of_lt hk,Nat.add_zero]
 have md:(i*(K*K*C)+k) % (K*K*C)=k:=by rw [Nat.mul_comm,Nat.mul_add_mod,Nat.mod_eq_of_lt hk]
 unfold cX
 rw [dv,md,Int.mul_comm]
end Go.Proofs.YtmihnoagagbgaaaGreat
namespace Go.Proofs.YtmihnoagagbgaaaGreat
open Tryz
open Go.RowKit Go.Shelf
theorem oR (w:World) (S:Nat → Prop):∀ xs:List I8,RowsOf (aa .i8) w S (xs.map fun x=>Value.int .i8 x.1) (xs.map fun x=>x.1)
 | []=>rfl
 | x :: xs=>⟨[Value.int .i8 x.1],xs.map fun x=>Value.int .i8 x.1,rfl,⟨rfl,x.2⟩,oR w S xs⟩
theorem tk:(prog.info? 37).map (fun i=>(i.zero,i.size,i.bytes))=some (some (.int .i8 0),1,1):=by kernel_rfl
section
attribute [local go_sem] Oper.semAt_some
theorem oZ (n gf:Nat) (hn:5≤n) (lb:Array Value) (xs:List I8) (N:Nat) (Sp:List I8 → Prop) (w:World) (hN:N≤1000)
  (eg:∀ args w,(callFunc gf args).run prog w=.ok (.enter gf args) w)
  (hseq:SeqStopsK Fence.wide (n - 1) prog gf lb e8 (Below w.heap.size) (fun ys=>ys=xs) Sp N w) :
  CallsIn Fence.wide n prog 147 #[.slice none 0 0,.func (.func gf) #[] lb] w fun e W'=>∃ v,e=.returned v∧W'.ownsRow w.heap.size 37 1 v xs.length (xs.map fun x=>Value.int .i8 x.1)∧Below w w W':=by
 have h1:1≤n:=oM
 obtain ⟨i0,hi,hz0,hz1,hz2⟩:=info_parts tk
 refine callsIn_of_wp_marks func147 rfl trivial ?_ rfl
 simp only [ntmps147,List.size_toArray,List.length_cons,List.length_nil,Nat.reduceAdd,Nat.reduceSub,Array.replicate_succ,Array.replicate_zero,List.push_toArray,List.append_toArray,List.nil_append,List.cons_append]
 gi_wp2
 have bO:=Boxed.new w 25 (.slice none 0 0)
 have hB0:Below w w (w.alloc (.cells #[.slice none 0 0] 25)):=(qB _ w).alloc (lR _) _
 refine wpIn_rangeFunc_ownG rfl h1 (gf:=gf) (lb:=lb) rfl trivial eg
  hseq belowK_t (belowK_b sM) hB0 (fun _=>rfl)
  (fun pre W=>(∃ v,Boxed W w.heap.size 25 v∧W.ownsRow w.heap.size 37 1 v pre.length (pre.map fun x=>Value.int .i8 x.1)∧True)∧Below w w W)
  (fun _ _ _=>False)
  (OwnFrom.and (Own.from (holdsRow_own w.heap.size w.heap.size 25 37 1 (fun pre:List I8=>pre.length) (fun pre=>pre.map fun x=>Value.int .i8 x.1) (fun pre v=>True)) _) (ownFrom_below (lR _) sM))
  (fun _ _ _ _ _ hs _ _=>hs)
  ⟨⟨_,bO,World.ownsRow_nil _ _ _ _,trivial⟩,hB0⟩
  (fun x=>{ tmps:=#[.slice none 0 0,.func (.func gf) #[] lb,.pointer (some ⟨w.heap.size,0,none⟩),undef,.slice none 0 0,.int .i8 x.1,.func (.func gf) #[] lb,.int .i8 x.1,undef,undef,undef,undef,undef],defers:=[] }) ?assign ?body ?done ?stop
 case assign =>
  intro l x W K hK
  simp only [e8]
  gi_wp2
  exact hK
 case body =>
  rintro l pre x W ⟨⟨v,hv,hrow,-⟩,hB⟩ hlt
  have hc:=hv.cell
  gi_wp2_with (gi_at_builtin;refine wpListIn_append_own _ rfl _ _ 25 rfl w.heap.size 37 i0 (.int .i8 0) 1 1 underlying25 hi hz0 hz1 hz2 rfl dM _ _ _ rfl (hrow.alloc _) ⟨W.heap.size,0,none⟩ 1 1 [.int .i8 x.1] rfl rfl (cell_one_new _ _ _) (by simp [Value.oneCell']) (by unfold maxLen;omega) oM (by have:=hB.size;simp;omega) ?_;intro v' w1 hown' hgrow _;obtain ⟨g',cap',rfl⟩:=ownsRow_succ hown';obtain ⟨hv1,hv2,hr2,hk2,hb2⟩:=hv.appended dM hrow hB.size (lR _) hown' hgrow;have hc1:=hv1.cell;have hf1:=hv1.frozen)
  exact ⟨hk2.from _,hb2,⟨_,hv2,by simpa using hr2,trivial⟩,hB.trans hb2⟩
 case done =>
  rintro D ys W hD rfl ⟨⟨v,hv,hrow,-⟩,hB⟩ hK
  have hc:=hv.cell
  gi_wp2
  refine ⟨by simp,.inl ⟨_,_,rfl,run_takeDeferred hK,?_⟩⟩
  exact ⟨_,results_tmp rfl _ _ _,v,rfl,ownsRow_putObj hrow _ hK rfl,hB.trans (belowK_b (w:=w) (lR _) W D _ _ (by simp at hD;omega) hK rfl rfl)⟩
 case stop =>
  rintro D c pre W _ _ h _
  exact h.elim
end
theorem lJ (gf:Nat) (lb:Array Value) (xs:List I8) (N:Nat) (Sp:List I8 → Prop) (w:World) (hN:N≤1000)
  (eg:∀ args w,(callFunc gf args).run prog w=.ok (.enter gf args) w)
  (hseq:SeqStopsK Fence.wide 5 prog gf lb e8 (Below w.heap.size) (fun ys=>ys=xs) Sp N w) :
  Calls prog 118 #[.func (.func gf) #[] lb] w (RetSl (aa .i8) w (xs.map fun x=>x.1)):=by
 go_in
 go_wp2_with (go_at_call 147;refine ((callsIn_wide (n:=6)).1 (oZ 6 gf dM lb xs N Sp w hN eg hseq)).mono ?_;rintro e w2 ⟨v,rfl,hrow,hb⟩)
 go_ret
 have ho:Own (aa .i8) w2 (fun _=>False) w.heap.size 37 v xs.length (xs.map fun x=>x.1):=⟨_,hrow,oR _ _ _⟩
 exact ho.ret dM hb (fun _ h=>h.elim)
theorem qo (H V C:Nat) (A:QA) (n cap:Nat) (l:List Int) (d:af) (W:QA) (nw cw:Nat) (B:QA) (nb cb:Nat) (K S P y x c:Nat) (w:World)
  (hl:xA w A n cap l) (hn:n=H*V*C) (hn2:n≤1024) (h1:1≤H∧H≤16) (v1:1≤V∧V≤16) (c1:1≤C∧C≤1024) (he:decide (0 < ab H V C)=true)
  (hk:d.k=K) (hs:d.s=S) (hp:d.p=P) (k1:1≤K∧K≤5) (s1:1≤S∧S≤4) (p1:P≤4) (hy:y≤1000) (hx:x≤1000) (hc:c < C) :
  Calls prog 119 #[.agg (tN H V C A n cap),.agg (nD d W nw cw B nb cb),.int .i64 y,.int .i64 x,.int .i64 c] w fun e w' =>
   ∃ F,e=.returned F∧Below w w w'∧Calls prog 118 #[F] w' (RetSl (aa .i8) w' (dc H V C l K S P c y x (K*K))):=by
 have HL:=zH hl
 have hkk:K*K≤5*5:=Nat.mul_le_mul k1.2 k1.2
 have FR:=zW w
 obtain ⟨w1,w2,w3,w4,w5,yw1,yw2,yw3,yw4,yw5,q1,q2,q3,q4,q5,BT,BN,BH,BW,BC,yk5⟩:=bk5 w (tN H V C A n cap) 27 (nD d W nw cw B nb cb) 42 #[.int .i64 y] 3 #[.int .i64 x] 3 #[.int .i64 c] 3
 replace FR:=zF yk5 FR
 clear yk5
 have s5:=zH (zO HL FR)
 have WS:=zH (ql H V C A n cap l d W nw cw B nb cb K S P y x c w1.heap.size w.heap.size w2.heap.size w3.heap.size w4.heap.size w5.heap.size 5 w5 s5.out hn hn2 h1 v1 c1 he hk hs hp k1 s1 p1 hy hx hc BN.o BT.o BH.o BW.o BC.o ⟨by omega,by omega,by omega,by omega,by omega⟩ (lR _) dM)
 clear hn hk hs hp he hl
 go_in
 go_wp2
 go_ret
 refine ⟨_,rfl,FR.u,?_⟩
 refine (lJ 148 #[.pointer (some ⟨w1.heap.size,0,none⟩),.pointer (some ⟨w.heap.size,0,none⟩),.pointer (some ⟨w2.heap.size,0,none⟩),.pointer (some ⟨w3.heap.size,0,none⟩),.pointer (some ⟨w4.heap.size,0,none⟩)] (iA H V C l s5.out.allK K S P c y x (K*K)) (K*K) (fun _=>True) w5 oM (enters_of func148 kM rfl) WS.o).mono ?_
 intro e w6 h
 rw [jf] at h
 exact h
end Go.Proofs.YtmihnoagagbgaaaGreat
namespace Go.Proofs.YtmihnoagagbgaaaGreat
open Go.RowKit Go.ChangeShapes Go.WideShapes Fx Tryz
set_option maxRecDepth 100000
set_option maxHeartbeats 16000000
def hiN (l:List Int):Nat → Int
 | 0=>l.getD 0 0
 | k+1=>if hiN l k < l.getD k 0 then l.getD k 0 else hiN l k
def loN (l:List Int):Nat → Int
 | 0=>l.getD 0 0
 | k+1=>if l.getD k 0 < loN l k then l.getD k 0 else loN l k
theorem rt (A:QA) (n cap:Nat) (l:List Int) (w:World) (hl:xA w A n cap l) (hn:n≤1024) :
  Calls prog 61 #[.slice A n cap] w fun e w'=>e=.returned (.tuple #[.int .i8 (if n=0 then 0 else loN l n),.int .i8 (if n=0 then 0 else hiN l n)])∧Below w w w':=by
 have H:=zH hl
 clear hl
 by_cases n0:n=0
 ·rw [if_pos n0,if_pos n0]
  subst n0
  go_in
  go_wp2_with fail
  go_ret2
  exact ⟨rfl,qB _ _⟩
 rw [if_neg n0,if_neg n0]
 obtain ⟨b,o,rfl,-,-,c0,i0⟩:=H.o.int_at 0 oM
 rw [Nat.add_zero] at c0
 have t0:((n:Int) == 0)=false:=by simp;omega
 have t1:¬ (n:Int)=0:=oM
 have t2:0 < n:=oM
 have L0:=zH (show loN l 0=l.getD 0 0 from rfl)
 have H0:=zH (show hiN l 0=l.getD 0 0 from rfl)
 obtain ⟨x0,hx0⟩:∃ x,l.getD 0 0=x:=⟨_,rfl⟩
 rw [hx0] at c0 i0 L0 H0
 clear hx0
 go_in
 go_wp2_with fail
 go_quiet (fail)
 obtain ⟨wq,hwq⟩:∃ m,w.drewN nq=m:=⟨_,rfl⟩
 have FR:=zH (show Far w wq from ⟨by rw [← hwq];exact am (qB _ _) _⟩)
 go_wp2_with fail
 rw [hwq]
 clear hwq c0
 go_loopw [4,5,6] (fun u v ii wr=>∃ k:Nat,k≤n∧ii=.int .i64 k∧u=.int .i8 (loN l k)∧v=.int .i8 (hiN l k)∧Far w wr) (fun _ _ ii _=>n - (intOf ii).toNat)
 case atStart=>exact ⟨0,zl _,rfl,by rw [L0.o],by rw [H0.o],FR.o⟩
 case round =>
  obtain ⟨k,hk,rfl,rfl,rfl,hf⟩:=hrel
  clear FR
  have FR:=zH hf
  clear hf
  by_cases hlt:k < n
  ·have p1:(k:Int) < (n:Int):=oM
   obtain ⟨b',o',e',-,-,cx,ix⟩:=(zO H FR).int_at k hlt
   simp only [Option.some.injEq,Addr.mk.injEq,and_true] at e'
   obtain ⟨rfl,rfl⟩:=e'
   have LS:=zH (show loN l (k+1)=if l.getD k 0 < loN l k then l.getD k 0 else loN l k from rfl)
   have HS:=zH (show hiN l (k+1)=if hiN l k < l.getD k 0 then l.getD k 0 else hiN l k from rfl)
   obtain ⟨x,hx⟩:∃ x,l.getD k 0=x:=⟨_,rfl⟩
   rw [hx] at cx ix LS HS
   clear hx
   go_wp2
   exact ⟨⟨k+1,by omega,by go_num,by first|(rw [LS.o];done)|(rw [LS.o];congr 1;split <;> omega),by first|(rw [HS.o];done)|(rw [HS.o];congr 1;split <;> omega),FR.o⟩,by simp [intOf];omega⟩
  ·obtain rfl:k=n:=oM
   go_wp2_with fail
   go_ret2
   exact ⟨rfl,FR.u⟩
theorem tj (l:List Int):hiN l 1=l.getD 0 0:=by
 show (if hiN l 0 < l.getD 0 0 then l.getD 0 0 else hiN l 0)=_
 split
 ·rfl
 ·rfl
theorem sw (A:QA) (n cap:Nat) (l:List Int) (w:World) (hl:xA w A n cap l) (hn:n≤1024) (h1:1≤n) :
  Calls prog 120 #[.slice A n cap] w fun e w'=>e=.returned (.int .i8 (hiN l n))∧w=w':=by
 have H:=zH hl
 clear hl
 obtain ⟨b,o,rfl,-,-,c0,i0⟩:=H.o.int_at 0 oM
 rw [Nat.add_zero] at c0
 have t1:¬ (n:Int) < 1:=oM
 have H0:=zH (tj l)
 obtain ⟨x0,hx0⟩:∃ x,l.getD 0 0=x:=⟨_,rfl⟩
 rw [hx0] at c0 i0 H0
 clear hx0
 go_in
 go_wp2_with fail
 clear c0
 go_loopw [3,4] (fun v ii wr=>∃ k:Nat,k≤n∧1≤k∧ii=.int .i64 k∧v=.int .i8 (hiN l k)∧w=wr) (fun _ ii _=>n - (intOf ii).toNat)
 case atStart=>exact ⟨1,h1,lR _,rfl,by rw [H0.o],rfl⟩
 case round =>
  obtain ⟨k,hk,hk1,rfl,rfl,rfl⟩:=hrel
  by_cases hlt:k < n
  ·have p1:(k:Int) < (n:Int):=oM
   obtain ⟨b',o',e',-,-,cx,ix⟩:=H.o.int_at k hlt
   simp only [Option.some.injEq,Addr.mk.injEq,and_true] at e'
   obtain ⟨rfl,rfl⟩:=e'
   have HS:=zH (show hiN l (k+1)=if hiN l k < l.getD k 0 then l.getD k 0 else hiN l k from rfl)
   obtain ⟨x,hx⟩:∃ x,l.getD k 0=x:=⟨_,rfl⟩
   rw [hx] at cx ix HS
   clear hx
   go_wp2
   exact ⟨⟨k+1,by omega,by omega,by go_num,by first|(rw [HS.o];done)|(rw [HS.o];congr 1;split <;> omega),by trivial⟩,by simp [intOf];omega⟩
  ·obtain rfl:k=n:=oM
   go_wp2
   go_ret
   exact ⟨rfl,by trivial⟩
theorem l0 (A:QA) (n cap:Nat) (l:List Int) (w:World) (hl:xA w A n cap l) (hn:n≤1024) (h1:1≤n) :
  Calls prog 83 #[.slice A n cap] w fun e w'=>e=.returned (.int .i8 (hiN l n))∧w=w':=by
 go_in
 go_wp2_with (go_at_call 120;refine (sw A n cap l _ hl hn h1).mono ?_;rintro e w2 ⟨rfl,rfl⟩)
 go_ret
 exact ⟨rfl,rfl⟩
def gN (H V C:Nat) (l:List Int) (y x:Int) (c:Nat) (z:Int):Int:=if aK H V y x then l.getD (cH V C y x c) 0 else z
def fw (H V C:Nat) (l:List Int) (p:Nat) (z:Int) (Wo i:Nat):Int:=gN H V C l ((i / C / Wo:Nat) - (p:Int)) ((i / C % Wo:Nat) - (p:Int)) (i % C) z
theorem oO {H V C:Nat} {l:List Int} {y x:Int} {c:Nat} {z:Int} (hl:∀ i,InK .i8 (l.getD i 0)) (hz:InK .i8 z):InK .i8 (gN H V C l y x c z):=by
 unfold gN
 split
 ·exact hl _
 ·exact hz
theorem ry (H V C Ho Wo p:Nat) (A:QA) (n cap:Nat) (l:List Int) (z:Int) (N:Nat) (w:World) (ha:xA w A n cap l) (hn:n=H*V*C) (hn2:n≤1024) (hH:H≤16) (hV:V≤16) (hC:1≤C∧C≤1024) (hHo:Ho≤16) (hWo:1≤Wo∧Wo≤16) (hp:p≤4) (hz:InK .i8 z) (hN:Ho*Wo*C=N) (hN2:N≤1024) :
  Calls prog 65 #[.agg (sN Ho Wo C),.agg (tN H V C A n cap),.int .i64 p,.int .i64 p,.int .i8 z] w fun e w'=>∃ Q c,e=.returned (.agg (tN Ho Wo C Q N c))∧Sl (aa .i8) w' (bin w w') Q N c ((List.range N).map (fw H V C l p z Wo))∧Below w w w':=by
 have HA:=zH ha
 have HZ:=zH hz
 have NE:=zH hN
 have PX:=zH (fun (y x:Int) (c:Nat) (hc:c < C) wq (h:xA wq A n cap l)=>rj H V C A n cap l y x c z wq h hn hn2 hH hV hC.2 hc)
 have FR:=zW w
 obtain ⟨w1,w2,w3,yw1,yw2,yw3,l1,l2,l3,BS,BT,BC,yk3⟩:=bk3 w (sN Ho Wo C) 24 (tN H V C A n cap) 27 (tN 0 0 0 none 0 0) 27
 replace FR:=zF yk3 FR
 clear yk3
 have BS3:=zH BS.o
 obtain ⟨w4,yw4,BG,yk4⟩:=nB w3 (tN 0 0 0 none 0 0) 27
 obtain ⟨FR,BS,BT,BC⟩:=uz4 yk4 FR BS BT BC
 clear yk4
 have l4:w4.heap.size=w3.heap.size+1:=by rw [← yw4];simp
 have ub1:(Ho:Int)≤16:=oM
 have ub2:(Wo:Int)≤16:=oM
 have ub3:(C:Int)≤1024:=oM
 clear ha hz hn hN
 go_in
 go_wp2_with (first|(refine lGJ19 BS3.o ?_)|(refine sGJ19 (tN Ho Wo C none 0 0) BG.o ?_;intro w5 B5 g5))
 clear yw1 yw2 yw3 yw4 BS3
 replace FR:=zA g5 FR
 replace BS:=zA g5 BS
 replace BT:=zA g5 BT
 replace BC:=zA g5 BC
 replace BG:=zH B5
 clear B5 g5
 have ON:=zH (show Own (aa .i8) w5 (fun _=>False) w4.heap.size 37 (.slice none 0 0) ((0*Wo+0)*C+0) ((List.range ((0*Wo+0)*C+0)).map (fw H V C l p z Wo)) by rw [Nat.zero_mul,Nat.zero_add,Nat.zero_mul];exact Own.nil _ _ _ _ _)
 go_loopw [12] (fun ii wr=>∃ h:Nat,h≤Ho∧ii=.int .i64 h∧Far w wr∧Blk wr w.heap.size 24 (sN Ho Wo C)∧Blk wr w1.heap.size 27 (tN H V C A n cap)∧Blk wr w2.heap.size 27 (tN 0 0 0 none 0 0)∧∃ u,Blk wr w3.heap.size 27 #[.int .i64 Ho,.int .i64 Wo,.int .i64 C,u]∧Own (aa .i8) wr (fun _=>False) w4.heap.size 37 u ((h*Wo+0)*C+0) ((List.range ((h*Wo+0)*C+0)).map (fw H V C l p z Wo))) (fun ii _=>Ho - (intOf ii).toNat)
 case atStart=>exact ⟨0,zl _,rfl,FR.o,BS.o,BT.o,BC.o,_,BG.o,ON.o⟩
 case round =>
  obtain ⟨h,hh,rfl,f0,f1,f2,f3,u,f4,f5⟩:=hrel
  clear FR BS BT BC BG ON
  have FR:=zH f0
  have BS:=zH f1
  have BT:=zH f2
  have BC:=zH f3
  have BG:=zH f4
  have ON:=zH f5
  clear f0 f1 f2 f3 f4 f5
  have d0:=BS.o.cell 0
  by_cases hlt:h < Ho
  ·have p1:(h:Int) < (Ho:Int):=oM
   go_wp2_with fail
   clear d0
   go_loopw [13] (fun ii wr=>∃ x:Nat,x≤Wo∧ii=.int .i64 x∧Far w wr∧Blk wr w.heap.size 24 (sN Ho Wo C)∧Blk wr w1.heap.size 27 (tN H V C A n cap)∧Blk wr w2.heap.size 27 (tN 0 0 0 none 0 0)∧∃ u,Blk wr w3.heap.size 27 #[.int .i64 Ho,.int .i64 Wo,.int .i64 C,u]∧Own (aa .i8) wr (fun _=>False) w4.heap.size 37 u ((h*Wo+x)*C+0) ((List.range ((h*Wo+x)*C+0)).map (fw H V C l p z Wo))) (fun ii _=>Wo - (intOf ii).toNat)
   case atStart=>exact ⟨0,zl _,rfl,FR.o,BS.o,BT.o,BC.o,_,BG.o,ON.o⟩
   case round =>
    obtain ⟨x,hx,rfl,f0,f1,f2,f3,u,f4,f5⟩:=hrel
    clear FR BS BT BC BG ON
    have FR:=zH f0
    have BS:=zH f1
    have BT:=zH f2
    have BC:=zH f3
    have BG:=zH f4
    have ON:=zH f5
    clear f0 f1 f2 f3 f4 f5
    have d1:=BS.o.cell 1
    by_cases hlx:x < Wo
    ·have p2:(x:Int) < (Wo:Int):=oM
     go_wp2_with fail
     clear d1
     go_loopw [14] (fun ii wr=>∃ o:Nat,o≤C∧ii=.int .i64 o∧Far w wr∧Blk wr w.heap.size 24 (sN Ho Wo C)∧Blk wr w1.heap.size 27 (tN H V C A n cap)∧Blk wr w2.heap.size 27 (tN 0 0 0 none 0 0)∧∃ u,Blk wr w3.heap.size 27 #[.int .i64 Ho,.int .i64 Wo,.int .i64 C,u]∧Own (aa .i8) wr (fun _=>False) w4.heap.size 37 u ((h*Wo+x)*C+o) ((List.range ((h*Wo+x)*C+o)).map (fw H V C l p z Wo))) (fun ii _=>C - (intOf ii).toNat)
     case atStart=>exact ⟨0,zl _,rfl,FR.o,BS.o,BT.o,BC.o,_,BG.o,ON.o⟩
     case round =>
      obtain ⟨o,ho,rfl,f0,f1,f2,f3,u,f4,f5⟩:=hrel
      clear FR BS BT BC BG ON
      have FR:=zH f0
      have BS:=zH f1
      have BT:=zH f2
      have BC:=zH f3
      have BG:=zH f4
      have ON:=zH f5
      clear f0 f1 f2 f3 f4 f5
      have d2:=BS.o.cell 2
      by_cases hlo:o < C
      ·have p3:(o:Int) < (C:Int):=oM
       go_wp2_with fail
       clear d2
       have hlk:(h*Wo+x)*C+o < N:=by rw [← NE.o];exact dO h x o Ho Wo C hlt hlx hlo
       have FK:=zH (show fw H V C l p z Wo ((h*Wo+x)*C+o)=gN H V C l ((h:Int) - (p:Int)) ((x:Int) - (p:Int)) o z by
        obtain ⟨n1,n2,n3⟩:=eY h x Wo C o hlx hlo
        unfold fw
        rw [n1,n2,n3])
       have CALL:=zH (PX.o ((h:Int) - (p:Int)) ((x:Int) - (p:Int)) o hlo)
       obtain ⟨res,hres⟩:∃ m,gN H V C l ((h:Int) - (p:Int)) ((x:Int) - (p:Int)) o z=m:=⟨_,rfl⟩
       have CALL:=zH (show ∀ wq (hs:xA wq A n cap l),Calls prog 100 #[.agg (tN H V C A n cap),.int .i64 ((h:Int) - (p:Int)),.int .i64 ((x:Int) - (p:Int)),.int .i64 o,.int .i8 z] wq fun e w'=>e=.returned (.int .i8 res)∧Below wq wq w' from fun wq hs=>by rw [← hres];exact CALL.o wq hs)
       have RE:=zH (show InK .i8 res by rw [← hres];exact oO (fun i=>HA.o.allK i) HZ.o)
       rw [hres] at FK
       obtain ⟨yy,hyy⟩:∃ m:Int,(h:Int) - (p:Int)=m:=⟨_,rfl⟩
       obtain ⟨xx,hxx⟩:∃ m:Int,(x:Int) - (p:Int)=m:=⟨_,rfl⟩
       rw [hyy,hxx] at CALL
       have e1:IntKind.i64.wrap ((h:Int) - (p:Int))=yy:=by rw [hyy];exact wJ
       have e2:IntKind.i64.wrap ((x:Int) - (p:Int))=xx:=by rw [hxx];exact wJ
       have fd:Below w w wr.drew:=FR.u.drew
       obtain ⟨k,hk⟩:∃ m,(h*Wo+x)*C+o=m:=⟨_,rfl⟩
       have HK:=zH hk
       rw [hk] at hlk FK ON
       have OD:=zH (show Own (aa .i8) wr.drew (fun _=>False) w4.heap.size 37 u k ((List.range k).map (fw H V C l p z Wo)) from ON.o.heap rfl)
       have nu:=zH (show ∀ b,b < w4.heap.size → some b ≠ u.ownBlock from fun b hb e=>absurd (ON.o.lt b e.symm).1 oM)
       have z0:w4.heap.size≤wr.drew.heap.size:=by have:=BG.o.lt;show w4.heap.size≤wr.heap.size;omega
       clear hres hk hyy hxx
       refine aJ (fun w'=>w'.cell? ⟨w3.heap.size,3,none⟩=some u∧Blk w' w1.heap.size 27 (tN H V C A n cap)∧Below w w w') 14 kM ?_ (fun hS=>?_)
       ·exact ⟨BG.o.drew.cell 3,BT.o.drew,fd⟩
       refine kT' 0 hS ?_
       refine kT' 1 hS ?_
       refine tkT 2 rfl (yP (tN H V C A n cap) (fun w hs=>hs.2.1)) hS ?_
       try simp only [pX]
       refine kT' 3 hS ?_
       refine kT' 4 hS ?_
       refine kT' 5 hS ?_
       refine kT' 6 hS ?_
       refine kT' 7 hS ?_
       refine kT' 8 hS ?_
       refine kT' 9 hS ?_
       refine kT' 10 hS ?_
       refine rT 11 (fun K hK=>?_)
       go_simp
       refine qM (CALL.o _ ((Old.now HA.o).fut fd).all) fun wa hb=>?_;have OA:=zH (OD.o.below hb (lR _) (fun _ h=>h.elim));have za:w4.heap.size≤wa.heap.size:=lT z0 hb.size;have XX:=zH (And.intro (BC.o.drew.later hb) (And.intro (BS.o.drew.later hb) (BG.o.drew.later hb)));have YY:=zH (BT.o.drew.later hb);have FA:=zH (ai fd hb fd.size)
       refine xK hK (zR hb hS) fun hS=>?_
       clear hK K
       refine rT 12 (fun K hK=>?_)
       go_simp
       have hb:Below wa wa (wa.alloc (.cells #[.int .i8 res] 37)):=(qB _ _).alloc (lR _) _
       refine xK hK (zR hb hS) fun hS=>?_
       clear hK K
       refine rT 13 (fun K hK=>?_)
       (rw [if_pos (by rfl)];refine cU (W:=wa) (cs:=#[.int .i8 res]) (E:=37) (t:=aa .i8) (.tmp 36) (.tmp 47) rfl dy rfl OA.o 1 rfl res ⟨rfl,RE.o⟩ (by unfold maxLen;omega) oM za (fun _ h=>h.elim) ?_;intro u' w7 own7 g7 at7;have B7:=zH (XX.o.2.2.rowR g7 (nu.out _ oM));refine hK.out _ _ ⟨B7.o.cell 3,YY.o.rowR g7 (nu.out _ oM),FA.o.grown g7 FA.o.size (fun j hj=>lT oM (OA.o.lt j hj).1)⟩ (fun hS=>?_))
       clear hK K
       try simp only [pX]
       refine wpAnyT_tail _ _ rfl rfl kM ?_
       have FZ:=hS.2.2
       have XC:=zH (XX.o.1.rowR g7 (nu.out _ oM))
       have XD:=zH (XX.o.2.1.rowR g7 (nu.out _ oM))
       have XA:=zH hS.2.1
       have NU:=zH (show u'.ownBlock=none ∨ u'.ownBlock ≠ some w3.heap.size by
        cases hu:u'.ownBlock with
        | none=>exact .inl rfl
        | some m=>right;intro e;have:=(own7.lt m hu).1;have:=sI e;omega)
       obtain ⟨A7,c7,rfl,-⟩:=own7.sl (S':=fun _=>True) dM (fun _ _ _=>trivial) (fun _ _=>trivial)
       clear hS hb nu at7
       go_wp2_with (refine wpList_store_one rfl 25 (.tmp 49) (.tmp 48) rfl w3.heap.size 3 (.slice A7 (k+1) c7) rfl rfl rfl rfl _ #[.int .i64 Ho,.int .i64 Wo,.int .i64 C,u] (tN Ho Wo C A7 (k+1) c7) B7.o sM kM rfl ?_;intro w8 B8 g8)
       have F8:=(show Far w w7 from ⟨FZ⟩).away g8 oM
       have O8:=own7.flat g8 (by rcases NU.o with e|e;exact .inl e;exact .inr e) (fun _ h=>h)
       have e9:=dz (fw H V C l p z Wo) k
       rw [FK.o] at e9
       rw [e9] at O8
       exact ⟨⟨o+1,by omega,by go_num,F8,XD.o.away g8 (.inl oM),XA.o.away g8 (.inl oM),XC.o.away g8 (.inl oM),_,B8,by rw [show (h*Wo+x)*C+(o+1)=k+1 by rw [← HK.o];rfl];exact O8⟩,by simp [intOf];omega⟩
      ·obtain rfl:o=C:=oM
       go_wp2
       exact ⟨⟨x+1,by omega,by go_num,FR.o,BS.o,BT.o,BC.o,_,BG.o,by rw [show (h*Wo+(x+1))*o+0=(h*Wo+x)*o+o by rw [Nat.add_zero,show h*Wo+(x+1)=(h*Wo+x)+1 from rfl,Nat.succ_mul]];exact ON.o⟩,by simp [intOf];omega⟩
    ·obtain rfl:x=Wo:=oM
     go_wp2
     exact ⟨⟨h+1,by omega,by go_num,FR.o,BS.o,BT.o,BC.o,_,BG.o,by rw [show ((h+1)*x+0)*C+0=(h*x+x)*C+0 by rw [Nat.add_zero ((h+1)*x),Nat.succ_mul]];exact ON.o⟩,by simp [intOf];omega⟩
  ·obtain rfl:h=Ho:=oM
   obtain ⟨A9,c9,rfl,-⟩:=ON.o.sl (S':=fun _=>True) dM (fun _ _ _=>trivial) (fun _ _=>trivial)
   have en:(h*Wo+0)*C+0=N:=by rw [Nat.add_zero,Nat.add_zero];exact NE.o
   rw [en] at ON BG
   clear NE
   go_wp2_with (first|(refine lGJ19 BG.o ?_)|(refine sGJ19 (tN h Wo C A9 N c9) BC.o ?_;intro w9 B9 g9))
   have e2:=ON.o.flat g9 (by
    cases hu:(Value.slice A9 N c9).ownBlock with
    | none=>exact .inl rfl
    | some m=>right;intro e;have:=(ON.o.lt m hu).1;have:=sI e;omega) (fun _ h=>h)
   refine ret_cell rfl B9 rfl underlying27 kM rfl ?_
   obtain ⟨A2,c2,hv,s⟩:=e2.sl (S':=bin w.heap.size _) dM (fun b h1 h2=>⟨by omega,h2⟩) (fun b h=>h.elim)
   injection hv with hv1 hv2 hv3
   subst hv1 hv3
   exact ⟨_,_,rfl,s,(FR.o.away g9 oM).out⟩
def gL (t:ae) (p:Nat) (z:Int):ae × Int:=if ab (t.h+2*p) (t.v+2*p) t.c=0 then (aj,5)
 else (⟨t.h+2*p,t.v+2*p,t.c,(List.range (ab (t.h+2*p) (t.v+2*p) t.c).toNat).map (fw t.h.toNat t.v.toNat t.c.toNat t.data p z (t.v.toNat+2*p))⟩,0)
theorem oq (t:ae) (H V C p:Nat) (A:QA) (n cap:Nat) (z:Int) (w:World) (ha:xA w A n cap t.data) (TK:TOk t n H V C) (hp:p≤4) (hz:InK .i8 z) :
  Calls prog 33 #[.agg (tN H V C A n cap),.int .i64 p,.int .i8 z] w (ar .i8 (gL t p z).1 (gL t p z).2 w):=by
 have HA:=zH ha
 have k1:=TK.h1
 have k2:=TK.v1
 have k3:=TK.c1
 unfold gL
 rw [TK.h,TK.v,TK.c]
 simp only [Int.toNat_natCast]
 obtain ⟨Ho,hHo⟩:∃ m,H+2*p=m:=⟨_,rfl⟩
 obtain ⟨Wo,hWo⟩:∃ m,V+2*p=m:=⟨_,rfl⟩
 have i1:(H:Int)+2*(p:Int)=(Ho:Int):=oM
 have i2:(V:Int)+2*(p:Int)=(Wo:Int):=oM
 rw [i1,i2,hWo]
 have EL:=zH (fun w=>aQ (Ho:Int) (C:Int) (Wo:Int) w (by rw [ah];omega) (by rw [ah];omega) (by rw [ah];omega))
 have FR:=zW w
 obtain ⟨w1,w2,w3,yw1,yw2,yw3,l1,l2,_,BT,BR,BS,yk3⟩:=bk3 w (tN H V C A n cap) 27 (tN 0 0 0 none 0 0) 27 (sN Ho Wo C) 24
 replace FR:=zF yk3 FR
 clear yk3
 have d0:w2.cell? ⟨w.heap.size,0,none⟩=some (.int .i64 H):=by rw [← yw2];exact ((show Blk w1 w.heap.size 27 (tN H V C A n cap) by rw [← yw1];exact Blk.now _ _ _ _ rfl).past _).cell 0
 have d1:w2.cell? ⟨w.heap.size,1,none⟩=some (.int .i64 V):=by rw [← yw2];exact ((show Blk w1 w.heap.size 27 (tN H V C A n cap) by rw [← yw1];exact Blk.now _ _ _ _ rfl).past _).cell 1
 have d2:w2.cell? ⟨w.heap.size,2,none⟩=some (.int .i64 C):=by rw [← yw2];exact ((show Blk w1 w.heap.size 27 (tN H V C A n cap) by rw [← yw1];exact Blk.now _ _ _ _ rfl).past _).cell 2
 by_cases e0:ab (Ho:Int) (Wo:Int) (C:Int)=0
 ·rw [if_pos e0]
  rw [e0] at EL
  clear e0 ha TK hz
  go_in
  go_wp2_with (first|(refine lGJ19 BS.o ?_)|(go_at_call 25;refine qM (EL.o _) fun w4 hb=>?_;obtain ⟨FR,BT,BR,BS⟩:=uz4 hb FR BT BR BS;clear hb yw1 yw2 yw3 d0 d1 d2)|(refine sGJ19 (tN 0 0 0 none 0 0) BR.o ?_;intro w9 B9 g9))
  refine rG B9 ?_
  exact ar.none (FR.o.away g9 oM).out
 ·rw [if_neg e0]
  obtain ⟨H',V',C',q1,q2,q3,b1,b2,b3,q4,q5⟩:=et e0
  obtain rfl:Ho=H':=oM
  obtain rfl:Wo=V':=oM
  obtain rfl:C=C':=oM
  obtain ⟨N,hN⟩:∃ N,Ho*Wo*C=N:=⟨_,rfl⟩
  rw [hN] at q4 q5
  rw [q4] at EL ⊢
  rw [Int.toNat_natCast]
  have hN0:¬ N=0:=by intro e;rw [e] at q4;exact e0 q4
  have hN1:((N:Int) == 0)=false:=by simp;omega
  have MV:=zH (fun wq (h:xA wq A n cap t.data)=>ry H V C Ho Wo p A n cap t.data z N wq h TK.n_eq TK.n_le k1.2 k2.2 k3 b1.2 b2 hp hz hN q5)
  clear e0 ha TK hz q1 q2 q3 q4 hN
  go_in
  go_wp2_with (first|(refine lGJ19 BS.o ?_)|(go_at_call 25;refine qM (EL.o _) fun w4 hb=>?_;obtain ⟨FR,BT,BR,BS⟩:=uz4 hb FR BT BR BS;clear hb yw1 yw2 yw3 d0 d1 d2)|(refine lGJ19 BT.o ?_))
  refine (MV.o _ (zO HA FR)).mono ?_
  rintro e wm ⟨RA,rc,rfl,rs,hb⟩
  have RS:=zH (show New w4 (aa .i8) wm RA N rc _ from ⟨rs⟩)
  have lbr:=BR.o.lt
  have lfr:=FR.o.size
  obtain ⟨BR,FR⟩:=uz2 hb BR FR
  clear hb rs
  go_wp2_with (refine sGJ19 (tN Ho Wo C RA N rc) BR.o ?_;intro w9 B9 g9)
  refine rG B9 ?_
  exact ⟨RA,N,rc,rfl,(RS.o.away g9 lbr).out.more (aO lfr (lR _)),(FR.o.away g9 oM).out⟩
theorem nP (a:Addr) (h x p:Int) (w:World) (hp:w.cell? a=some (.int .i64 p)) (b1:-1000≤h∧h≤1000) (b2:-1000≤x∧x≤1000) (b3:-4≤p∧p≤4) :
  Calls prog 127 #[.int .i64 h,.int .i64 x,.pointer (some a)] w fun e w'=>e=.returned (.tuple #[.int .i64 (h - p),.int .i64 (x - p)])∧Below w w w':=by
 obtain ⟨c1,c2⟩:=b1
 obtain ⟨c3,c4⟩:=b2
 obtain ⟨c5,c6⟩:=b3
 go_in
 go_wp2_with fail
 go_quiet (fail)
 go_wp2_with fail
 go_ret2
 exact ⟨rfl,am (qB _ _) _⟩
end Go.Proofs.YtmihnoagagbgaaaGreat
namespace Go.Proofs.YtmihnoagagbgaaaGreat
open Go.RowKit Go.ChangeShapes Go.WideShapes Tryz
set_option maxRecDepth 100000
set_option maxHeartbeats 16000000
theorem sO (A A':QA) (n cap n' cap':Nat) (l:List Int) (w:World) (h:Sl (aa .i64) w (blo w) A n cap l) (h':Sl (aa .i64) w (blo w) A' n' cap' l) :
  Calls prog 10 #[.slice A n cap,.slice A' n' cap'] w fun e w'=>e=.returned (.bool true)∧Below w w w':=by
 have hm:n≤9223372036854775807:=lT h.cap_le h.max_le
 obtain rfl:n=n':=h.n_eq.symm.trans h'.n_eq
 have H:=zH h
 have H':=zH h'
 clear h h'
 have d1:((n:Int) != (n:Int))=false:=by simp
 go_in
 go_wp2
 go_loopw [5] (fun i wr=>∃ k:Nat,k≤n∧i=.int .i64 k∧wr.heap=w.heap∧Below w w wr) (fun i _=>n - (intOf i).toNat)
 case atStart=>exact ⟨0,zl _,rfl,rfl,qB _ _⟩
 case round =>
  obtain ⟨k,hk,rfl,hh,hb⟩:=hrel
  by_cases hlt:k < n
  ·obtain ⟨b,off,rfl,_,_,c0,i0⟩:=(H.o.below hb (fun _ h=>h)).int_at k hlt
   obtain ⟨b',off',rfl,_,_,c1,i1⟩:=(H'.o.below hb (fun _ h=>h)).int_at k hlt
   have HH:=zH hh
   clear hh i0 i1
   generalize hx:l.getD k 0=x at *
   have d3:(x != x)=false:=by simp
   clear hx
   go_wp2_with fail
   go_quiet (fail)
   go_wp2
   exact ⟨⟨k+1,by omega,by go_num,HH.o,am hb _⟩,by simp [intOf];omega⟩
  ·obtain rfl:k=n:=oM
   go_wp2
   go_ret
   exact ⟨rfl,hb⟩
end Go.Proofs.YtmihnoagagbgaaaGreat
