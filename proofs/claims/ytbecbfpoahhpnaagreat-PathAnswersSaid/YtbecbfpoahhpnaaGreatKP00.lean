/- Verdicts, exits and answers as Lean data; slices of numbers compared; arguments of these types opened. -/
import Derived.Test.YtbecbfpoahhpnaaGreatJ24
set_option linter.unusedVariables false
set_option linter.unusedSimpArgs false
set_option maxRecDepth 100000
set_option maxHeartbeats 16000000
namespace Go.Proofs.YtbecbfpoahhpnaaGreat
open Go.RowKit Go.ChangeShapes Go.WideShapes Tryz
structure Vd where
 cls:Int
 margin:Int
 logits:List Int
 enough:Bool
structure Exit where
 model:Int
 block:Int
 steps:Int
 spent:Int
 v:Vd
structure EP (d:Exit):Prop where
 model:InK .i64 d.model
 block:InK .i64 d.block
 steps:InK .i64 d.steps
 spent:InK .i64 d.spent
 cls:InK .i64 d.v.cls
 margin:InK .i64 d.v.margin
abbrev tI6:Ty Int:=ab .i64
def tVd:Ty Vd:=tMap (fun (x:Int × Int × List Int × Bool)=>⟨x.1,x.2.1,x.2.2.1,x.2.2.2⟩) (tPair tI6 (tPair tI6 (tPair (tSlice (ab .i32)) xQ)))
def EF:Ty Exit:=tMap (fun (x:Int × Int × Int × Int × Vd)=>⟨x.1,x.2.1,x.2.2.1,x.2.2.2.1,x.2.2.2.2⟩) (tPair tI6 (tPair tI6 (tPair tI6 (tPair tI6 tVd))))
theorem Fo:EF.size=8:=rfl
theorem Ga {w:World} {S:Nat → Prop} {cs:List Value} {d:Vd} (h:tVd.rep w S cs d) :
  ∃ A n t,cs=[.int .i64 d.cls,.int .i64 d.margin,.slice A n t,.bool d.enough]∧InK .i64 d.cls∧InK .i64 d.margin∧Sl (ab .i32) w S A n t d.logits:=by
 obtain ⟨⟨a,b,l,e⟩,rfl,_,_,rfl,⟨rfl,i⟩,_,_,rfl,⟨rfl,s⟩,_,_,rfl,r,rfl⟩:=h;obtain ⟨A,t,rfl,o⟩:=aZ.1 r;exact ⟨A,_,t,rfl,i,s,o⟩
theorem Fp {w:World} {S:Nat → Prop} {cs:List Value} {d:Exit} (h:EF.rep w S cs d) :
  ∃ A n t,cs=[.int .i64 d.model,.int .i64 d.block,.int .i64 d.steps,.int .i64 d.spent,.int .i64 d.v.cls,.int .i64 d.v.margin,.slice A n t,.bool d.v.enough]∧EP d∧Sl (ab .i32) w S A n t d.v.logits:=by
 obtain ⟨⟨a,b,c,e,v⟩,rfl,_,_,rfl,⟨rfl,o⟩,_,_,rfl,⟨rfl,i⟩,_,_,rfl,⟨rfl,s⟩,_,_,rfl,⟨rfl,r⟩,y⟩:=h;obtain ⟨A,n,t,rfl,l,m,f⟩:=Ga y;exact ⟨A,n,t,rfl,⟨o,i,s,r,l,m⟩,f⟩
theorem Fy {w:World} {S:Nat → Prop} {d:Exit} {A:QA} {n e:Nat} (h:EP d) (t:Sl (ab .i32) w S A n e d.v.logits) :
  EF.rep w S [.int .i64 d.model,.int .i64 d.block,.int .i64 d.steps,.int .i64 d.spent,.int .i64 d.v.cls,.int .i64 d.v.margin,.slice A n e,.bool d.v.enough] d :=
 ⟨(d.model,d.block,d.steps,d.spent,d.v),rfl,_,_,rfl,⟨rfl,h.model⟩,_,_,rfl,⟨rfl,h.block⟩,_,_,rfl,⟨rfl,h.steps⟩,_,_,rfl,⟨rfl,h.spent⟩,
  (d.v.cls,d.v.margin,d.v.logits,d.v.enough),rfl,_,_,rfl,⟨rfl,h.cls⟩,_,_,rfl,⟨rfl,h.margin⟩,_,_,rfl,t.rep,rfl⟩
theorem Sl.exit_at {w:World} {S:Nat → Prop} {A:QA} {n a:Nat} {l:List Exit} (h:Sl EF w S A n a l) (i:Nat) (hi:i < n) :
  ∃ d L t cl b off,l[i]?=some d∧A=some ⟨b,off,none⟩∧S b∧b < w.heap.size∧EP d∧Sl (ab .i32) w S L t cl d.v.logits ∧
   w.cell? ⟨b,off+i*8,none⟩=some (.int .i64 d.model)∧w.cell? ⟨b,off+i*8+1,none⟩=some (.int .i64 d.block)∧w.cell? ⟨b,off+i*8+2,none⟩=some (.int .i64 d.steps)∧w.cell? ⟨b,off+i*8+3,none⟩=some (.int .i64 d.spent) ∧
   w.cell? ⟨b,off+i*8+4,none⟩=some (.int .i64 d.v.cls)∧w.cell? ⟨b,off+i*8+5,none⟩=some (.int .i64 d.v.margin)∧w.cell? ⟨b,off+i*8+6,none⟩=some (.slice L t cl)∧w.cell? ⟨b,off+i*8+7,none⟩=some (.bool d.v.enough):=by
 obtain ⟨d,b,off,xs,y,o,s,r,m,p,e⟩:=h.cells i hi dM;obtain ⟨L,t,cl,rfl,c,f⟩:=Fp m;rw [Fo] at e;simp only [← Nat.add_assoc] at e;exact ⟨d,L,t,cl,b,off,y,o,s,r,c,f,e 0 _ rfl,e 1 _ rfl,e 2 _ rfl,e 3 _ rfl,e 4 _ rfl,e 5 _ rfl,e 6 _ rfl,e 7 _ rfl⟩
/-! ### Numbers compared -/
open Go
section
variable {n l:Nat} {P:Program} {ops:Array Oper} {Q:Go.Exit → Act → World → Prop}
theorem EJ (s:¬ LetsOut Q):∀ (e:List Oper) (t:∀ o ∈ e,∀ c,o.op ≠ .defer c) (a:Act) (w:World),wpList P ops Q e a w → wpListIn (Fence.wide.inRound l) n P ops Q e a w
 | [],_,_,_,h=>h
 | o :: e,t,a,w,h=>by
  simp only [wpList] at h;simp only [wpListIn];by_cases r:Region.wanted o (yielded ops a.tmps)=true
  ·rw [if_pos r] at h ⊢;rcases h with h|h
   ·refine ⟨fun _ _=>trivial,?_⟩;show o.uponIn _ n P a _ Q ((o.semAt (some l) a.eval).run P w);rw [Oper.semAt_eq _ _ _ (t o (List.mem_cons_self ..))];exact xT o a _ _ h _ (EJ s e fun o i=>t o (List.mem_cons_of_mem _ i))
   ·exact absurd h.2 s
  ·rw [if_neg r] at h ⊢;exact ⟨fun _ _=>trivial,EJ s e (fun o i=>t o (List.mem_cons_of_mem _ i)) _ _ h⟩
theorem EZ {d:Nat} {t:List Oper} {a:Act} {w:World} (i:vR t.toArray=true) (r:¬ LetsOut Q) (h:wpList P t.toArray Q t a w):(Code.region d t.toArray false).wpIn (Fence.wide.inRound l) n P Q a w :=
 wpIn_region_lit (EJ r t (fun o s c e=>by
  have:=Array.all_eq_true_iff_forall_mem.1 i o (by simpa using s);rw [e] at this;cases this) a w h)
end
end Go.Proofs.YtbecbfpoahhpnaaGreat
