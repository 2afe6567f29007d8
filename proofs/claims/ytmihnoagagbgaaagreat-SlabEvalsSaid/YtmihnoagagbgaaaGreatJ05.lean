/-
  Walks of dense (layer 18): the shape that a node makes, all sums of a tensor; the program's and the document's.
-/
import Derived.Test.YtmihnoagagbgaaaGreatJ02
import Derived.Test.YtmihnoagagbgaaaGreatJ04
set_option linter.unusedVariables false
set_option linter.unusedSimpArgs false
set_option maxRecDepth 100000
set_option maxHeartbeats 16000000
namespace Go.Proofs.YtmihnoagagbgaaaGreat
open Go.RowKit Go.ChangeShapes Go.WideShapes Tryz
set_option maxRecDepth 100000
set_option maxHeartbeats 16000000
def ap (h v c:Int) (d:af):Int :=
 if ab h v c=0 ∨ ab 1 1 d.out=0 then 5
 else if ¬ (d.w.length:Int)=d.out*ab h v c ∨ 16384 < d.w.length ∨ ¬ (d.bias.length:Int)=d.out then 9 else 0
def fg (code out:Int):Ending:=.returned (.tuple #[if code=0 then .agg (sN 1 1 out) else .agg (sN 0 0 0),.int .i64 code])
theorem gE (h v c:Int) (d:af) (W:QA) (nw cw:Nat) (B:QA) (nb cb:Nat) (w:World) (h0:InK .i64 h) (h1:InK .i64 v) (h2:InK .i64 c) (hout:InK .i64 d.out)
  (hnw:nw=d.w.length) (hnb:nb=d.bias.length) (mw:nw≤maxLen) (mb:nb≤maxLen) :
  Calls prog 106 #[.agg (sN h v c),.agg (nD d W nw cw B nb cb)] w fun e w'=>e=fg (ap h v c d) d.out∧Below w w w':=by
 have H0:=zH h0
 have H1:=zH h1
 have H2:=zH h2
 have HO:=zH hout
 have HNW:=zH hnw
 have HNB:=zH hnb
 clear h0 h1 h2 hout hnw hnb
 unfold maxLen at mw mb
 have r1:=aC h v c
 have r2:=aC 1 1 d.out
 by_cases c1:ab h v c=0
 ·have t1:decide (0 < ab h v c)=false:=by simp;omega
  have e:ap h v c d=5:=by unfold ap;rw [if_pos (.inl c1)]
  have E:=zH e
  clear e c1
  go_in
  go_wp2_with fail
  refine qM (aP h c v _ H0.o H1.o H2.o) fun w1 hb=>?_
  rw [t1]
  have g1:=ai (B:=w.heap.size) (a:=w) (by go_grown) hb (by simp;omega)
  have bC:=(((Blk.now _ (w.heap.size+1+1) _ _ sM).past _).later hb)
  have fC:=fun i=>bC.frozen i
  have cC:=fun i=>bC.cell i
  clear hb
  go_wp2_with fail
  refine ret_cell_tmp rfl (((bC.set_ 0 _).set_ 1 _).set_ 2 _) rfl underlying24 kM rfl ⟨?_,by go_grown⟩
  rw [E.o];rfl
 have t1:decide (0 < ab h v c)=true:=by simp;omega
 by_cases c2:ab 1 1 d.out=0
 ·have t2:decide (0 < ab 1 1 d.out)=false:=by simp;omega
  have e:ap h v c d=5:=by unfold ap;rw [if_pos (.inr c2)]
  have E:=zH e
  clear e c1 c2
  go_in
  go_wp2_with fail
  refine qM (aP h c v _ H0.o H1.o H2.o) fun w1 hb=>?_
  rw [t1]
  have g1:=ai (B:=w.heap.size) (a:=w) (by go_grown) hb (by simp;omega)
  have BC:=zH (((Blk.now _ (w.heap.size+1+1) _ _ sM).past _).later hb)
  have bD:=((Blk.now _ (w.heap.size+1+1+1) _ _ sM).later hb)
  have cD:=fun i=>bD.cell i
  clear bD hb
  go_wp2_with fail
  refine qM (aP 1 d.out 1 _ dM dM HO.o) fun w2 hb=>?_
  rw [t2]
  have g2:=ai g1 hb g1.size
  have bC:=BC.o.later hb
  have lt2:=g2.size
  have fC:=fun i=>bC.frozen i
  have cC:=fun i=>bC.cell i
  clear hb cD
  go_wp2_with fail
  refine ret_cell_tmp rfl (((bC.set_ 0 _).set_ 1 _).set_ 2 _) rfl underlying24 kM rfl ⟨?_,by go_grown⟩
  rw [E.o];rfl
 have t2:decide (0 < ab 1 1 d.out)=true:=by simp;omega
 have hE:ap h v c d=if ¬ (nw:Int)=d.out*ab h v c ∨ 16384 < nw ∨ ¬ (nb:Int)=d.out then 9 else 0:=by
  unfold ap;rw [if_neg oM,HNW.o,HNB.o]
 have o1:1≤d.out∧d.out≤1024:=by
  rw [bI] at c2
  split at c2
  ·omega
  ·exact absurd rfl c2
 have E:=zH hE
 have HC1:=zH c1
 clear hE c1 c2 r2
 go_in
 go_wp2_with fail
 refine qM (aP h c v _ H0.o H1.o H2.o) fun w1 hb=>?_
 rw [t1]
 have g1:=ai (B:=w.heap.size) (a:=w) (by go_grown) hb (by simp;omega)
 have bA:=((((Blk.now _ w.heap.size _ _ rfl).past _).past _).past _).later hb
 have bB:=(((Blk.now _ (w.heap.size+1) _ _ sM).past _).past _).later hb
 have bC:=((Blk.now _ (w.heap.size+1+1) _ _ sM).past _).later hb
 have bD:=(Blk.now _ (w.heap.size+1+1+1) _ _ sM).later hb
 have BA:=zH bA
 have BB:=zH bB
 have BC:=zH bC
 have BD:=zH bD
 have cD:=fun i=>bD.cell i
 clear bA bB bC bD hb
 go_wp2_with fail
 refine qM (aP 1 d.out 1 _ dM dM HO.o) fun w2 hb=>?_
 rw [t2]
 have g2:=ai g1 hb g1.size
 have BA:=zH (BA.o.later hb)
 have BB:=zH (BB.o.later hb)
 have BC:=zH (BC.o.later hb)
 have BD:=zH (BD.o.later hb)
 clear hb cD t1 t2
 go_wp2_with fail
 generalize hm:ab h v c=m at *
 have HM:=zH hm
 clear hm
 have hp:0≤d.out*m∧d.out*m≤1024*1024:=⟨Int.mul_nonneg oM oM,Int.mul_le_mul o1.2 r1.2 oM oM⟩
 have hwr:IntKind.i64.wrap (d.out*m)=d.out*m:=wJ
 have cA:∀ (x:Ext w2) (i:Nat),x.1.cell? ⟨w.heap.size,i,none⟩=((sN h v c):Array Value)[i]?:=fun x i=>(BA.o.ext x).cell i
 have cB6:∀ x:Ext w2,x.1.cell? ⟨w.heap.size+1,6,none⟩=some (.int .i64 d.out):=fun x=>(BB.o.ext x).cell 6
 have cB9:∀ x:Ext w2,x.1.cell? ⟨w.heap.size+1,9,none⟩=some (.slice W nw cw):=fun x=>(BB.o.ext x).cell 9
 have cB10:∀ x:Ext w2,x.1.cell? ⟨w.heap.size+1,10,none⟩=some (.slice B nb cb):=fun x=>(BB.o.ext x).cell 10
 have E1:=zH (fun x:Ext w2=>aR x (bQ h c v _ H0.o H1.o H2.o))
 rw [HM.o] at E1
 have t3:((nw:Int) != d.out*m)=true∧ap h v c d=9 ∨ ((nw:Int) != d.out*m)=false∧(decide ((16384:Int) < (nw:Int))=true∧ap h v c d=9 ∨
   decide ((16384:Int) < (nw:Int))=false∧(((nb:Int) != d.out)=true∧ap h v c d=9 ∨ ((nb:Int) != d.out)=false∧ap h v c d=0)):=by
  rw [E.o]
  by_cases c3:(nw:Int)=d.out*m
  ·refine .inr ⟨by simp [c3],?_⟩
   by_cases c4:16384 < nw
   ·exact .inl ⟨by simp;omega,by rw [if_pos (.inr (.inl c4))]⟩
   ·refine .inr ⟨by simp;omega,?_⟩
    by_cases c5:(nb:Int)=d.out
    ·exact .inr ⟨by simp [c5],by rw [if_neg oM]⟩
    ·exact .inl ⟨by rw [bne_iff_ne];exact c5,by rw [if_pos (.inr (.inr c5))]⟩
  ·exact .inl ⟨by rw [bne_iff_ne];exact c3,by rw [if_pos (.inl c3)]⟩
 clear E
 rcases t3 with ⟨t3,e⟩|⟨t3,⟨t4,e⟩|⟨t4,⟨t5,e⟩|⟨t5,e⟩⟩⟩
 all_goals
  have E:=zH e
  clear e
  refine aB w2 kM kM (qB _ _) ?_
  repeat (go_big_quiet_step ((exact E1.o _)))
  refine wpQuiet_nil ?_
  rintro _ ⟨⟨w3,hB⟩,rfl⟩
  have g3:=ai g2 hB g2.size
  have lt3:=g3.size
  have bC:=BC.o.later hB
  have bD:=BD.o.later hB
  have fC:=fun i=>bC.frozen i
  have cC:=fun i=>bC.cell i
  have cD:=fun i=>bD.cell i
  clear hB
  go_wp2_with fail
  refine ret_cell_tmp rfl (((bC.set_ 0 _).set_ 1 _).set_ 2 _) rfl underlying24 kM rfl ⟨?_,by go_grown⟩
  rw [E.o];rfl
end Go.Proofs.YtmihnoagagbgaaaGreat
