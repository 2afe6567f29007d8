/- Which exit answers first, and why (layer 38): path.Why, path.First, the document's Why. -/
import Derived.Test.YtbecbfpoahhpnaaGreatKP00
import Derived.Test.YtbecbfpoahhpnaaGreatJ49
set_option linter.unusedVariables false
set_option linter.unusedSimpArgs false
set_option maxRecDepth 100000
set_option maxHeartbeats 16000000
namespace Go.Proofs.YtbecbfpoahhpnaaGreat
open Go.RowKit Go.ChangeShapes Go.WideShapes Tryz
def EE (e last late:Bool):Int:=if e=true then 1 else if last=true then 2 else if late=true then 3 else 0
def ED (late:Int) (d:Exit):Bool:=decide (0≤late) && decide (late < d.steps)
def EA (n:Nat) (late:Int) (d:Exit) (k:Nat):Int:=EE d.v.enough ((k:Int) == (n:Int) - 1) (ED late d)
def EC (n:Nat) (late:Int):List Exit → Nat → Int × Int
 | [],_=>(-1,0)
 | d :: l,k=>if EA n late d k=0 then EC n late l (k+1) else ((k:Int),EA n late d k)
theorem ER {n:Nat} {late:Int} {l:List Exit} {k:Nat} {d:Exit} (h:l[k]?=some d) :
  EC n late (l.drop k) k=if EA n late d k=0 then EC n late (l.drop (k+1)) (k+1) else ((k:Int),EA n late d k):=by
 obtain ⟨e,rfl⟩:=List.getElem?_eq_some_iff.1 h;rw [List.drop_eq_getElem_cons e];rfl
theorem E0 (c m:Int) (A:QA) (n t:Nat) (e last late:Bool) (w:World) :
  Calls prog 42 #[.agg #[.int .i64 c,.int .i64 m,.slice A n t,.bool e],.bool last,.bool late] w fun r w'=>r=.returned (.int .i64 (EE e last late))∧Below w w w':=by
 cases e <;> cases last <;> cases late;all_goals
  go_in;go_wp2;go_ret;exact ⟨rfl,by go_grown⟩
theorem Fd (A:QA) (n m:Nat) (l:List Exit) (late:Int) (w:World) (h:Sl EF w (blo w) A n m l) :
  Calls prog 19 #[.slice A n m,.int .i64 late] w
   fun e w'=>e=.returned (.tuple #[.int .i64 (EC n late l 0).1,.int .i64 (EC n late l 0).2])∧Below w w w':=by
 have hm:n≤9223372036854775807:=lT h.cap_le h.max_le;obtain ⟨H,G⟩:=zh2 h h.n_eq;clear h;obtain ⟨y,B⟩:∃ y,EC n late l 0=y:=⟨_,rfl⟩;have I:=zH B;rw [B];clear B;go_in;go_wp2;go_loopw [11] (fun i wr=>∃ k:Nat,k≤n∧i=.int .i64 k∧Below w w wr∧EC n late (l.drop k) k=y) (fun i _=>n - (intOf i).toNat)
 case atStart=>exact ⟨0,zl _,rfl,qB _ _,I.o⟩
 case round =>
  obtain ⟨k,hk,rfl,t,f⟩:=hrel;have p:=zH t;by_cases x:k < n;rotate_left
  ·obtain rfl:k=n:=oM;have F:=zH (show y=(-1,0) by rw [← f,List.drop_of_length_le (by rw [G.o];exact lR _)];rfl);clear f t;go_wp2_with fail
   go_ret2
   exact ⟨by rw [F.o];rfl,p.o⟩
  have K:=zH (H.o.below p.o (fun _ h=>h));obtain ⟨d,L,E,cl,b,off,D,rfl,M,N,O,P,T,U,V,W,c4,X,Y,Z⟩:=K.o.exit_at k x;rw [ER D] at f;have s:=zH f;have j:EA n late d k=EE d.v.enough ((k:Int) == (n:Int) - 1) (ED late d):=rfl;clear t P D M O f;generalize EA n late d k=z at *;obtain ⟨J,S⟩:=zh2 (show Below wr wr (wr.alloc (.cells #[.int .i64 d.model,.int .i64 d.block,.int .i64 d.steps,.int .i64 d.spent,.int .i64 d.v.cls,.int .i64 d.v.margin,.slice L E cl,.bool d.v.enough] 67)) from (qB _ _).alloc (lR _) _) (Blk.now wr wr.heap.size 67 #[.int .i64 d.model,.int .i64 d.block,.int .i64 d.steps,.int .i64 d.spent,.int .i64 d.v.cls,.int .i64 d.v.margin,.slice L E cl,.bool d.v.enough] rfl);have g:=zH (az p.o J.o p.o.size);unfold ED at j;have r:=zH j;clear j;by_cases q:0≤late
  ·have C:decide (0≤late)=true:=by simpa using q
   have r:=zH (show z=EE d.v.enough ((k:Int) == (n:Int) - 1) (decide (late < d.steps)) by rw [r.o,C];rfl);clear q;go_wp2_with fail;refine (E0 _ _ _ _ _ _ _ _ _).mono ?_;rw [← r.o];rintro e R ⟨rfl,t⟩;have c:=zH (az g.o t g.o.size);clear t;by_cases a:z=0
   ·subst a;replace s:=zH (s.o.symm.trans (if_pos rfl));go_wp2;exact ⟨⟨k+1,by omega,by go_num,c.o,s.o.symm⟩,by simp [intOf];omega⟩
   ·have Q:(z != 0)=true:=by rw [bne_iff_ne];exact a
    have F:=zH (s.o.symm.trans (if_neg a));clear a;go_wp2_with fail
    go_ret2
    exact ⟨by rw [F.o];rfl,c.o⟩
  ·have C:decide (0≤late)=false:=by simpa using q
   have r:=zH (show z=EE d.v.enough ((k:Int) == (n:Int) - 1) false by rw [r.o,C];rfl);clear q;go_wp2_with fail;refine (E0 _ _ _ _ _ _ _ _ _).mono ?_;rw [← r.o];rintro e R ⟨rfl,t⟩;have c:=zH (az g.o t g.o.size);clear t;by_cases a:z=0
   ·subst a;replace s:=zH (s.o.symm.trans (if_pos rfl));go_wp2;exact ⟨⟨k+1,by omega,by go_num,c.o,s.o.symm⟩,by simp [intOf];omega⟩
   ·have Q:(z != 0)=true:=by rw [bne_iff_ne];exact a
    have F:=zH (s.o.symm.trans (if_neg a));clear a;go_wp2_with fail
    go_ret2
    exact ⟨by rw [F.o];rfl,c.o⟩
theorem Fe (w:World) :
  Calls prog 10 #[.pointer none,.agg (tN 0 0 0 none 0 0)] w
   fun e w'=>e=.returned (.tuple #[.agg #[.int .i64 0,.int .i64 0,.int .i64 0,.int .i64 0,.int .i64 0,.int .i64 0,.slice none 0 0,.int .i64 0,.int .i64 0,.int .i64 0,.slice none 0 0],.int .i64 1])∧Below w w w':=by
 go_in
 go_wp2_with (refine sG #[.int .i64 0,.int .i64 0,.int .i64 0,.int .i64 0,.int .i64 0,.int .i64 0,.slice none 0 0,.int .i64 0,.int .i64 0,.int .i64 0,.slice none 0 0] (Blk.now _ (w.heap.size+1) _ _ (by simp)) ?_;intro o t a)
 refine rG t ?_;exact ⟨rfl,(((qB _ _).alloc (lR _) _).alloc sM _).grown a (by simp;omega) (fun k h=>by cases h;omega)⟩
theorem Fj (w:World) :
  Calls prog 18 #[.pointer none,.agg (tN 0 0 0 none 0 0)] w
   fun e w'=>e=.returned (.tuple #[.slice none 0 0,.int .i64 1])∧Below w w w':=by
 have t:=zH (show Below w w (w.alloc (.cells (tN 0 0 0 none 0 0) 29)) from (qB _ _).alloc (lR _) _);go_in;go_wp2_with fail;refine qM (Fe _) fun n i=>?_;have a:=zH (az t.o i t.o.size);clear i;go_wp2_with fail
 go_ret2
 exact ⟨rfl,az a.o ((qB _ _).alloc (lR _) _) a.o.size⟩
theorem Fh (w:World):Calls prog 17 #[] w fun e w'=>e=.returned (.bool true)∧Below w w w':=by
 go_in;go_wp2_with fail;refine qM (Fj _) fun r o=>?_;go_wp2_with fail;refine qM (Fd none 0 0 [] 3 _ (Sl.nil _ _ _)) fun d i=>?_;rw [show EC 0 3 [] 0=(-1,0) from rfl];have t:=az o i o.size;clear o i;go_wp2_with fail;refine qM (E0 _ _ _ _ _ _ _ _ _) fun l n=>?_;rw [show EE false false true=3 from rfl];have a:=az t n t.size;clear t n;go_wp2_with fail;refine qM (E0 _ _ _ _ _ _ _ _ _) fun w4 s=>?_;rw [show EE true true true=1 from rfl];have h:=az a s a.size;clear a s;go_wp2;go_ret;exact ⟨rfl,h⟩
theorem Ev (u:Bun) (A:QA) (n t:Nat) (w:World) (y:Sl bJ w (blo w) A n t u.models) (hi:inU u) (l:iw u) :
  Calls prog 7 #[.agg #[.int .i64 u.h,.int .i64 u.v,.int .i64 u.c,.int .i64 u.cl,.slice A n t]] w fun e w'=>e=.returned (.bool ((cP u).1 == 0))∧Below w w w':=by
 obtain ⟨s,k⟩:=zh2 (fun w h=>ut u A n t w h hi l) (Old.now y);obtain ⟨q,m⟩:∃ x,u.h=x:=⟨_,rfl⟩;obtain ⟨C,p⟩:∃ x,u.v=x:=⟨_,rfl⟩;obtain ⟨j,d⟩:∃ x,u.c=x:=⟨_,rfl⟩;obtain ⟨B,f⟩:∃ x,u.cl=x:=⟨_,rfl⟩;obtain ⟨⟨g,D,E,F⟩,b⟩:∃ x,cP u=x:=⟨_,rfl⟩;simp only [b,m,p,d,f] at s ⊢;clear m p d f b y hi l;have H:=zW w;obtain ⟨G,a,i,k1⟩:=nB w #[.int .i64 q,.int .i64 C,.int .i64 j,.int .i64 B,.slice A n t] 26;replace H:=zN k1 H i;clear i k1;have z:∀ w:World,(Instr.field 78 (.agg #[.int .i64 g,.int .i64 D,.int .i64 E,.int .i64 F]) 0).run prog w=.ok (.int .i64 g) w:=fun _=>by kernel_rfl
 go_in
 go_wp2_with (refine lG H.o.2 ?_)
 refine qM (s.o _ (k.o.fut H.o.1.out).all) fun I r=>?_;replace H:=zF r H;clear r a;go_wp2;go_ret;exact ⟨rfl,H.o.1.out⟩
theorem Ez {t:ae} {s:Sh3} (h:fy t s=true):t.ok=true∧hvc t=s:=by
 unfold fy at h;simp only [Bool.and_eq_true,beq_iff_eq,List.cons.injEq,and_true] at h;exact ⟨h.1,by unfold hvc;rw [h.2.1,h.2.2.1,h.2.2.2]⟩
end Go.Proofs.YtbecbfpoahhpnaaGreat
