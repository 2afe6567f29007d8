/-
  Sums by rows that are slid over (layer 16): the walk of lane.line.
  The sums of channels (layer 17): the values, in whole numbers.
  Rows multiplied (layer 13): gemm.Dot of rows that are as long; gemm.may of three numbers.
  Sums scaled and held, all of a row (layer 2): fix.All, the document's All.
  Sums scaled and held, all of a row (layer 2): the document's All.
  A number scaled and held (layer 21): act.One, the document's One.
  Sums, and numbers, scaled and held (layer 21): act.One, act.Put, the document's One, Put.
  slices.Clone of []int8.
  slices.Clone of []int32.
  The shape that a node makes (layers 18, 25): kinds.around.
  The shape that a node makes (layers 18, 25): the document's Shape.
  The shape that a node makes (layers 18, 25): the document's Shape, put together.
-/
import Derived.Test.YtmihnoagagbgaaaGreatJ14
import Derived.Test.YtmihnoagagbgaaaGreatJ17
import Derived.Test.YtmihnoagagbgaaaGreatJ18
set_option linter.unusedVariables false
set_option linter.unusedSimpArgs false
set_option maxRecDepth 100000
set_option maxHeartbeats 16000000
namespace Go.Proofs.YtmihnoagagbgaaaGreat
open Go.RowKit Go.ChangeShapes Go.WideShapes Fx Tryz
set_option maxRecDepth 100000
set_option maxHeartbeats 16000000
theorem lQJ {P:Program} {ops:Array Oper} {rest:List Oper} {op:Oper} {a:Act} {w:World} {Q:Exit → Act → World → Prop} {x:Operand} {g off:Nat} {e:TypeId} {cs:Array Value} (ty:TypeId) (vs:Array Value) (hb:Blk w g e cs) (h:wpList P ops Q rest (a.put op.dst (.agg vs)) w) (hgd:op.guard=none:=by rfl) (ho:op.op=.load ty x:=by rfl) (hx:a.eval x=.pointer (some ⟨g,off,none⟩):=by rfl) (hi:(P.info? ty).map (·.size)=some vs.size:=by kernel_rfl) (hd:(P.underlying ty).any (·.isRow)=true:=by kernel_rfl) (hv:(cs.toList.drop off).take vs.size=vs.toList:=by rfl):wpList P ops Q (op :: rest) a w:=lP vs hb h hgd ho hx hi hd hv
theorem lGJ19 {P:Program} {ops:Array Oper} {rest:List Oper} {op:Oper} {a:Act} {w:World} {Q:Exit → Act → World → Prop} {x:Operand} {g:Nat} {e:TypeId} {cs:Array Value} (hb:Blk w g e cs) (h:wpList P ops Q rest (a.put op.dst (.agg cs)) w) (hgd:op.guard=none:=by rfl) (ho:op.op=.load e x:=by rfl) (hx:a.eval x=.pointer (some ⟨g,0,none⟩):=by rfl) (hi:(P.info? e).map (·.size)=some cs.size:=by kernel_rfl) (hd:(P.underlying e).any (·.isRow)=true:=by kernel_rfl):wpList P ops Q (op :: rest) a w:=lG hb h hgd ho hx hi hd
theorem sGJ19 {P:Program} {ops:Array Oper} {rest:List Oper} {op:Oper} {a:Act} {w:World} {Q:Exit → Act → World → Prop} {x y:Operand} {g:Nat} {e:TypeId} {cs:Array Value} (vs:Array Value) (hb:Blk w g e cs) (h:∀ w',Blk w' g e vs → w.grownBy w' (some g) → wpList P ops Q rest (a.put op.dst undef) w') (hgd:op.guard=none:=by rfl) (ho:op.op=.store e x y:=by rfl) (hx:a.eval x=.pointer (some ⟨g,0,none⟩):=by rfl) (hy:a.eval y=.agg vs:=by rfl) (hn:cs.size=vs.size:=by rfl) (hi:(P.info? e).map (·.size)=some vs.size:=by kernel_rfl) (h1:vs.all (·.oneCell')=true:=by rw [← Array.all_toList];rfl):wpList P ops Q (op :: rest) a w:=sG vs hb h hgd ho hx hy hn hi h1
theorem qI:EI prog 212 195 (.slice none 0 0) 1 24:=⟨underlying212,by kernel_rfl,rfl,by decide⟩
theorem oK:EI prog 213 215 (.agg #[.int .i8 0,.int .i8 0,.int .i8 0]) 3 3:=⟨underlying213,by kernel_rfl,rfl,by decide⟩
theorem Own.more {α:Type} {t:Ty α} {w:World} {S S':Nat → Prop} {base n:Nat} {E:TypeId} {v:Value} {l:List α} (h:Own t w S base E v n l) (hs:∀ b,S b → S' b):Own t w S' base E v n l:=by
 obtain ⟨vs,h1,h2⟩:=h.out
 exact ⟨vs,h1,h2.more hs⟩
theorem Blk.row' {w w':World} {g:Nat} {e:TypeId} {cs:Array Value} {r:Option Nat} (h:Blk w g e cs) (hg:w.grownBy w' r) (hne:some g ≠ r):Blk w' g e cs:=⟨by rw [hg.block g h.lt hne];exact h.heap⟩
def gG (base:Nat) (u v:Value) (w:World):Nat → Prop:=fun b=>base≤b∧b < w.heap.size∧some b ≠ u.ownBlock∧some b ≠ v.ownBlock
structure ez (base:Nat) (xs:List (List Int)) (ws:List W3) (k:Nat) (u v:Value) (w:World):Prop where
 rows:Own (tSlice (aa .i16)) w (gG base u v w) base 195 u k xs
 taps:Own tW3 w (fun _=>False) base 215 v k ws
 ne:u.ownBlock=none ∨ u.ownBlock ≠ v.ownBlock
theorem ez.below {base k:Nat} {xs ws u v w w'} (h:ez base xs ws k u v w) (hb:Below w w w'):ez base xs ws k u v w' :=
 ⟨(h.rows.below hb (lR _) (fun b hb=>hb.2.1)).more fun b ⟨h1,h2,h3⟩=>⟨h1,Nat.lt_of_lt_of_le h2 hb.size,h3⟩,h.taps.below hb (lR _) (fun _ h=>h.elim),h.ne⟩
theorem ez.row {base k:Nat} {xs ws u v w u' w' ys} (h:ez base xs ws k u v w) (ho:Own (tSlice (aa .i16)) w' (gG base u v w) base 195 u' (k+1) ys) (hg:w.grownBy w' u.ownBlock) (ha:u'.ownBlock=u.ownBlock ∨ u'.ownBlock=some (w.heap.size+1)) :
  Own (tSlice (aa .i16)) w' (gG base u' v w') base 195 u' (k+1) ys∧Own tW3 w' (fun _=>False) base 215 v k ws∧(u'.ownBlock=none ∨ u'.ownBlock ≠ v.ownBlock):=by
 refine ⟨ho.more fun b ⟨h1,h2,h3,h4⟩=>⟨h1,Nat.lt_of_lt_of_le h2 hg.size,?_,h4⟩,h.taps.flat hg ?_ (fun _ h=>h),?_⟩
 ·rcases ha with e|e
  ·rw [e];exact h3
  ·rw [e];intro h;injection h;omega
 ·rcases h.ne with e|e
  ·cases hv:v.ownBlock with
   | none=>exact .inl rfl
   | some m=>right;rw [e];simp
  ·exact .inr fun h=>e h.symm
 ·rcases ha with e|e
  ·rw [e];exact h.ne
  ·right
   rw [e]
   intro h'
   have:=(h.taps.lt _ h'.symm).2
   omega
theorem ez.tap {base k kk:Nat} {xs ws u v w v' w' ys} (h1:Own (tSlice (aa .i16)) w (gG base u v w) base 195 u k xs) (h2:Own tW3 w (fun _=>False) base 215 v kk ws) (h3:u.ownBlock=none ∨ u.ownBlock ≠ v.ownBlock)
  (ho:Own tW3 w' (fun _=>False) base 215 v' k ys) (hg:w.grownBy w' v.ownBlock) (ha:v'.ownBlock=v.ownBlock ∨ v'.ownBlock=some (w.heap.size+1)):ez base xs ys k u v' w':=by
 refine ⟨(h1.kept hg h3 (fun b hb=>⟨hb.2.1,hb.2.2.2⟩)).more fun b ⟨a1,a2,a3,a4⟩=>⟨a1,Nat.lt_of_lt_of_le a2 hg.size,a3,?_⟩,ho,?_⟩
 ·rcases ha with e|e
  ·rw [e];exact a4
  ·rw [e];intro h;injection h;omega
 ·rcases ha with e|e
  ·rw [e];exact h3
  ·rcases h3 with h3|h3
   ·exact .inl h3
   ·cases hu:u.ownBlock with
    | none=>exact .inl rfl
    | some m =>
     right
     rw [e]
     intro h'
     have:=(h1.lt _ hu).2
     injection h'
     omega
theorem qZ {P:Program} {o:Oper} {a:Act} {w:World} {Q:Go.Exit → Act → World → Prop} {K:Act → World → Prop} {T E:TypeId} {z:Value} {size bytes:Nat} (x:Operand) (ho:o.op=.buildSlice T 1 #[(0,x)]) (ei:EI P T E z size bytes)
  (vs:Array Value) (hx:a.eval x=.agg vs) (hvs:vs.size=size) (hsm:size≤16777216)
  (h:K (a.put o.dst (.slice (some ⟨w.heap.size,0,none⟩) 1 1)) (w.alloc (.cells vs E))):o.wp P a w K Q:=by
 unfold Oper.wp execOp
 simp only [ho,List.map_toArray,List.map_cons,List.map_nil,hx,Sem.run_bind,mP w ei vs hvs hsm,Sem.run_pure,Result.andThen_ok]
 exact h
theorem fc (i c C:Nat) (hc:c < C):(i*C+c) / C=i∧(i*C+c) % C=c :=
 ⟨by rw [Nat.mul_comm,Nat.mul_add_div oM,Nat.div_eq_of_lt hc,Nat.add_zero],by rw [Nat.mul_comm,Nat.mul_add_mod,Nat.mod_eq_of_lt hc]⟩
theorem jE {α:Type} (f:Nat → α) (r:Nat):(List.range r).map f ++ [f r]=(List.range (r+1)).map f:=by simp [List.range_succ]
end Go.Proofs.YtmihnoagagbgaaaGreat
namespace Go.Proofs.YtmihnoagagbgaaaGreat
open Go.RowKit Tryz
set_option maxRecDepth 100000
set_option maxHeartbeats 16000000
def db (t:ae) (d:af) (Wo Co:Nat) (i:Nat):Int:=wrap32 (d.bias.getD (i % Co) 0+eG t.h.toNat t.v.toNat t.c.toNat t.data d.za d.w d.k.toNat d.s.toNat d.p.toNat (i % Co) (i / Co / Wo) (i / Co % Wo))
def aY (t:ae) (d:af):ae × Int :=
 if t.ok=true then (if (aM t.h t.v t.c d).2=0 then (⟨(aM t.h t.v t.c d).1.1,(aM t.h t.v t.c d).1.2.1,(aM t.h t.v t.c d).1.2.2,
  (List.range (ab (aM t.h t.v t.c d).1.1 (aM t.h t.v t.c d).1.2.1 (aM t.h t.v t.c d).1.2.2).toNat).map (db t d (aM t.h t.v t.c d).1.2.1.toNat (aM t.h t.v t.c d).1.2.2.toNat)⟩,0) else (aj,(aM t.h t.v t.c d).2)) else (aj,5)
theorem f7 {t:ae} {d:af} (h1:t.ok=true) (h2:(aM t.h t.v t.c d).2=0):∃ H V C K S P Ho Wo:Nat,TOk t t.data.length H V C∧WOk d H V C K S P Ho Wo C∧aM t.h t.v t.c d=(((Ho:Int),(Wo:Int),(C:Int)),0)∧d.w.length=C*K*K∧d.bias.length=C∧ab Ho Wo C=(Ho*Wo*C:Nat) ∧
  aY t d=(⟨Ho,Wo,C,(List.range (Ho*Wo*C)).map (db t d Wo C)⟩,0):=by
 obtain ⟨H,V,C,T⟩:=cY h1
 obtain ⟨⟨⟨x1,x2,x3⟩,e⟩,hx⟩:∃ x,aM t.h t.v t.c d=x:=⟨_,rfl⟩
 have hx':=hx
 rw [hx] at h2
 obtain rfl:e=0:=h2
 unfold aM at hx'
 obtain ⟨a,b,-,c⟩:=jQ hx' rfl
 rw [T.h,T.v,T.c] at a
 obtain ⟨K,S,P,Ho,Wo,Co,hw,e1,e2,e3,e4,e5⟩:=gh a
 subst e1 e2 e3
 obtain rfl:C=Co:=oM
 refine ⟨H,V,C,K,S,P,Ho,Wo,T,hw,hx,?_,by have:=T.c;omega,e5,?_⟩
 ·rw [hw.k,T.c] at b
  exact_mod_cast b
 ·unfold aY
  rw [if_pos h1,hx,if_pos rfl]
  simp only [e5,Int.toNat_natCast]
theorem dw {t:ae} {n H V C:Nat} (h:TOk t n H V C):decide (0 < ab (H:Int) (V:Int) (C:Int))=true:=by
 have e:ab (H:Int) (V:Int) (C:Int)=(H*V*C:Nat):=by
  rw [bI,if_pos]
  ·rw [Int.natCast_mul,Int.natCast_mul]
  ·have:=h.h1;have:=h.v1;have:=h.c1
   refine ⟨by omega,by omega,by omega,by omega,by omega,by omega,?_⟩
   have e:=h.n_eq
   have:=h.n_le
   rw [e] at this
   rw [← Int.natCast_mul,← Int.natCast_mul]
   omega
 rw [e]
 have:0 < H*V*C:=Nat.mul_pos (Nat.mul_pos (by have:=h.h1;omega) (by have:=h.v1;omega)) (by have:=h.c1;omega)
 simp only [decide_eq_true_eq]
 omega
theorem dz {α:Type} (f:Nat → α) (r:Nat):(List.range r).map f ++ [f r]=(List.range (r+1)).map f:=by simp [List.range_succ]
theorem pf {i Ho Wo Co:Nat} (h:i < Ho*Wo*Co):i % Co < Co∧i / Co / Wo < Ho∧i / Co % Wo < Wo:=by
 have hC:0 < Co:=by
  rcases Nat.eq_zero_or_pos Co with e|e
  ·subst e;simp at h
  ·exact e
 have hW:0 < Wo:=by
  rcases Nat.eq_zero_or_pos Wo with e|e
  ·subst e;simp at h
  ·exact e
 have h1:i / Co < Ho*Wo:=Nat.div_lt_of_lt_mul (by rw [Nat.mul_comm];exact h)
 exact ⟨Nat.mod_lt _ hC,Nat.div_lt_of_lt_mul (by rw [Nat.mul_comm];exact h1),Nat.mod_lt _ hW⟩
end Go.Proofs.YtmihnoagagbgaaaGreat
namespace Go.Proofs.YtmihnoagagbgaaaGreat
open Go.RowKit Go.ChangeShapes Go.WideShapes Fx Tryz
set_option maxRecDepth 100000
set_option maxHeartbeats 16000000
def fP (a b:List Int) (n:Nat):Int:=az n fun i=>a.getD i 0*b.getD i 0
theorem td (A A':QA) (n cap cap':Nat) (a b:List Int) (w:World) (ha:Sl (aa .i16) w (blo w) A n cap a) (hb:xA w A' n cap' b) (hn:n≤65536) :
  Calls prog 190 #[.slice A n cap,.slice A' n cap'] w fun e w'=>e=.returned (.int .i32 (wrap32 (fP a b n)))∧Below w w w':=by
 have HA:=zH ha
 have HB:=zH hb
 have z0:=zH (show wrap32 (fP a b 0)=0 by unfold fP;rw [show az 0 (fun i=>a.getD i 0*b.getD i 0)=0 from rfl];unfold wrap32;decide)
 clear ha hb
 go_in
 go_wp2
 go_loopw [5,12] (fun u ii wr=>∃ k:Nat,k≤n∧ii=.int .i64 k∧u=.int .i32 (wrap32 (fP a b k))∧Below w w wr) (fun _ ii _=>n - (intOf ii).toNat)
 case atStart=>exact ⟨0,zl _,rfl,by rw [z0.out],qB _ _⟩
 case round =>
  obtain ⟨k,hk,rfl,rfl,hbl⟩:=hrel
  have HBL:=zH hbl
  clear hbl
  by_cases hlt:k < n
  ·have p1:(k:Int) < (n:Int):=oM
   obtain ⟨ba,oa,rfl,-,-,cx,ix⟩:=((Old.now HA.o).fut HBL.o).all.int_at k hlt
   obtain ⟨bz,oz,rfl,-,-,cy,iy⟩:=((Old.now HB.o).fut HBL.o).all.int_at k hlt
   have hs:fP a b (k+1)=fP a b k+a.getD k 0*b.getD k 0:=rfl
   obtain ⟨x,hx⟩:∃ x,a.getD k 0=x:=⟨_,rfl⟩
   obtain ⟨y,hy⟩:∃ x,b.getD k 0=x:=⟨_,rfl⟩
   rw [hx] at cx ix hs
   rw [hy] at cy iy hs
   rw [iF] at ix
   rw [aT] at iy
   have hm:=natAbs_mul_le (a:=x) (b:=y) (m:=32768) (n:=128) oM oM
   obtain ⟨i1,i2⟩:=ix
   obtain ⟨i3,i4⟩:=iy
   obtain ⟨pr,hpr⟩:∃ m,x*y=m:=⟨_,rfl⟩
   rw [hpr] at hm hs
   have m1:-4194304≤pr:=oM
   have m2:pr≤4194304:=oM
   obtain ⟨D,hD⟩:∃ m,fP a b k=m:=⟨_,rfl⟩
   rw [hD] at hs ⊢
   have HS:=zH hs
   obtain ⟨ac,hac⟩:∃ m,wrap32 D=m:=⟨_,rfl⟩
   have HC:=zH hac
   have b1:-2147483648≤ac:=by rw [← hac];exact (cV D).1
   have b2:ac≤2147483647:=by rw [← hac];exact (cV D).2
   rw [hac]
   clear hx hy hs hm hD hac
   go_wp2_with fail
   go_quiet (fail)
   go_wp2
   exact ⟨⟨k+1,by omega,by go_num,by rw [HS.o,← HC.o,eT],am HBL.o _⟩,by simp [intOf];omega⟩
  ·obtain rfl:k=n:=oM
   go_wp2
   go_ret
   exact ⟨rfl,HBL.o⟩
theorem dy:EI prog 25 37 (.int .i8 0) 1 1:=⟨underlying25,by kernel_rfl,rfl,by decide⟩
def eD (l:List Int) (m s z lo hi:Int):List Int:=l.map fun x=>cO x m s z lo hi
theorem jh {l:List Int} {n:Nat} (h:l.length=n) (m s z lo hi:Int):eD l m s z lo hi=(List.range n).map fun i=>cO (l.getD i 0) m s z lo hi:=by
 subst h
 unfold eD
 apply List.ext_getElem sM
 intro i h1 h2
 simp at h1
 simp [gD,List.getElem?_eq_getElem h1]
theorem pl (A:QA) (n cap:Nat) (l:List Int) (m s z lo hi:Int) (w:World) (hl:xB w A n cap l) (hn:n≤1073741824) (hm:InK .i32 m) (hz:InK .i8 z) (hlo:InK .i8 lo) (hhi:InK .i8 hi) (hq:aq m s=true) :
  Calls prog 133 #[.slice A n cap,.agg #[.int .i32 m,.int .i64 s,.int .i8 z],.int .i8 lo,.int .i8 hi] w (RetSl (aa .i8) w (eD l m s z lo hi)):=by
 have HL:=zH hl
 have QR:=zH (fun w=>cR m s z w)
 rw [hq] at QR
 rw [jh hl.n_eq]
 have HD:=zH (fun x (hx:InK .i32 x) w=>iM x m s z lo hi w hx hm hz hlo hhi)
 have mx:n≤9223372036854775807:=oM
 have FR:=zW w
 obtain ⟨w1,yw1,BQ,FR⟩:=nF FR #[.int .i32 m,.int .i64 s,.int .i8 z] 40
 have l1:=zL yw1
 obtain ⟨d0,d1,d2⟩:=uc3 BQ 0 1 2
 clear hq hm hz hlo hhi hl
 go_in
 go_wp2_with (first|(go_at_call 81;refine qM (QR.o _) fun w2 hb=>?_;have l2:=hb.size;obtain ⟨FR,BQ⟩:=uz2 hb FR BQ;clear hb d0 d1 d2 yw1)|(at_make;refine wpList_make (t:=aa .i8) (S:=fun _=>False) (base:=w1.heap.size) rfl _ _ rfl dy .i64 .i64 _ _ n rfl rfl rfl rfl ?_ ?_ ?_ 0 ⟨rfl,by decide⟩ (fun _ h=>h.elim) ?_;rotate_right;intro w3 hown hg))
 rotate_left
 ·omega
 ·unfold maxLen;omega
 ·omega
 have kb:Below w2 w2 w3:=(qB _ _).grown hg (lR _) sM
 replace hown:=(cM 0 (fun i=>cO (l.getD i 0) m s z lo hi) n).symm ▸ hown
 have ON:=zH hown
 have LG:=zH (show w.heap.size < w2.heap.size by omega)
 obtain ⟨FR,BQ⟩:=uz2 kb FR BQ
 clear kb
 clear hown hg QR
 go_loopw [19] (fun ii wr=>∃ k:Nat,k≤n∧ii=.int .i64 k∧Far w wr∧Blk wr w.heap.size 40 #[.int .i32 m,.int .i64 s,.int .i8 z]∧Own (aa .i8) wr (fun _=>False) w1.heap.size 37 (.slice (some ⟨w2.heap.size,0,none⟩) n n) n (cg 0 (fun i=>cO (l.getD i 0) m s z lo hi) n k)) (fun ii _=>n - (intOf ii).toNat)
 case atStart=>exact ⟨0,zl _,rfl,FR.o,BQ.o,ON.o⟩
 case round =>
  obtain ⟨k,hk,rfl,hf,hbq,hon⟩:=hrel
  clear FR BQ ON
  have FR:=zH hf
  have BQ:=zH hbq
  have ON:=zH hon
  clear hf hbq hon
  by_cases hlt:k < n
  ·have p1:(k:Int) < (n:Int):=oM
   go_wp2_with fail
   obtain ⟨b,o,rfl,-,-,cx,ix⟩:=(zO HL FR).int_at k hlt
   have FS:=zH (dD 0 (fun i=>cO (l.getD i 0) m s z lo hi) n k hlt)
   obtain ⟨x,hx⟩:∃ x,l.getD k 0=x:=⟨_,rfl⟩
   rw [hx] at cx ix
   have CX:=zH (HD.o x ix)
   have FE:=zH (show cO (l.getD k 0) m s z lo hi=cO x m s z lo hi by rw [hx])
   obtain ⟨res,hres⟩:∃ r,cO x m s z lo hi=r:=⟨_,rfl⟩
   rw [hres] at CX FE
   have RE:=zH (show InK .i8 res by rw [← hres];exact uq _ _ _ _ _ _)
   clear hx hres
   refine aJ (fun w'=>w'.cell? ⟨b,o+k,none⟩=some (.int .i32 x)∧Blk w' w.heap.size 40 #[.int .i32 m,.int .i64 s,.int .i8 z]∧Below wr.drew.heap.size wr.drew w') 10 kM ?_ (fun hS=>?_)
   ·exact ⟨ao ((qB _ _).drew) cx,BQ.o.drew,qB _ _⟩
   refine kT' 0 hS ?_
   refine kT' 1 hS ?_
   refine kT' 2 hS ?_
   refine kT' 3 hS ?_
   refine kT' 4 hS ?_
   refine kT' 5 hS ?_
   refine tkT 6 rfl (yP #[.int .i32 m,.int .i64 s,.int .i8 z] (fun w hs=>hs.2.1)) hS ?_
   try simp only [pX]
   refine kT' 7 hS ?_
   refine kT' 8 hS ?_
   refine rT 9 (fun K hK=>?_)
   go_simp
   refine qM (CX.o _) fun wm hb=>?_
   refine xK hK (zR hb hS) fun hS=>?_
   clear hK K
   refine wpAnyT_tail _ _ rfl rfl kM ?_
   have kd:=(show Below wr wr wr.drew from (qB _ _).drew).trans hb
   replace ON:=zH (ON.o.below kd (lR _) (fun _ h=>h.elim))
   obtain ⟨FR,BQ⟩:=uz2 kd FR BQ
   clear hS hb kd cx
   obtain ⟨x1,u1,-,-,c5,c6,c7,-⟩:=ON.o.cell rfl k hlt
   go_wp2_with fail
   obtain ⟨o3,g3⟩:=ON.o.set1 rfl k (.int .i8 res) res ⟨rfl,RE.o⟩ (fun _ h=>h.elim)
   have fs:=FS.o
   rw [FE.out] at fs
   rw [fs] at o3
   have lg:=LG.o
   exact ⟨⟨k+1,by omega,by go_num,FR.o.away g3 oM,BQ.o.away g3 (.inl lg),o3⟩,by simp [intOf];omega⟩
  ·obtain rfl:k=n:=oM
   go_wp2
   go_ret
   have e:=ON.o
   rw [dZ] at e
   obtain ⟨A2,c2,hv,sl⟩:=e.sl (S':=bin w.heap.size _) dM (fun b h1 h2=>⟨by omega,h2⟩) (fun b h=>h.elim)
   injection hv with hv1 hv2 hv3
   subst hv1 hv3
   exact ⟨_,_,_,rfl,sl,FR.u⟩
theorem og (A:QA) (n cap:Nat) (l:List Int) (m s z lo hi:Int) (w:World) (hl:xB w A n cap l) (hn:n≤1073741824) (hm:InK .i32 m) (hz:InK .i8 z) (hlo:InK .i8 lo) (hhi:InK .i8 hi) (hq:aq m s=true) :
  Calls prog 69 #[.slice A n cap,.agg #[.int .i32 m,.int .i64 s,.int .i8 z],.int .i8 lo,.int .i8 hi] w (RetSl (aa .i8) w (eD l m s z lo hi)):=by
 have HL:=zH hl
 have QR:=zH (fun w=>bK m s z w)
 rw [hq] at QR
 rw [jh hl.n_eq]
 have HD:=zH (fun x (hx:InK .i32 x) w=>il x m s z lo hi w hx hm hz hlo hhi)
 have mx:n≤9223372036854775807:=oM
 have FR:=zW w
 obtain ⟨w1,yw1,BQ,FR⟩:=nF FR #[.int .i32 m,.int .i64 s,.int .i8 z] 40
 have l1:w1.heap.size=w.heap.size+1:=by rw [← yw1];simp
 clear hq hm hz hlo hhi hl
 go_in
 go_wp2_with fail
 clear yw1
 have ON:=zH (show Own (aa .i8) w1 (fun _=>False) w1.heap.size 37 (.slice none 0 0) 0 ((List.range 0).map fun i=>cO (l.getD i 0) m s z lo hi) from Own.nil _ _ _ _ _)
 go_loopw [9,10] (fun u ii wr=>∃ k:Nat,k≤n∧ii=.int .i64 k∧Far w wr∧Blk wr w.heap.size 40 #[.int .i32 m,.int .i64 s,.int .i8 z]∧Own (aa .i8) wr (fun _=>False) w1.heap.size 37 u k ((List.range k).map fun i=>cO (l.getD i 0) m s z lo hi)) (fun _ ii _=>n - (intOf ii).toNat)
 case atStart=>exact ⟨0,zl _,rfl,FR.o,BQ.o,ON.o⟩
 case round =>
  obtain ⟨k,hk,rfl,hf,hbq,hon⟩:=hrel
  clear FR BQ ON
  have FR:=zH hf
  have BQ:=zH hbq
  have ON:=zH hon
  clear hf hbq hon
  obtain ⟨d0,d1,d2⟩:=uc3 BQ 0 1 2
  by_cases hlt:k < n
  ·have p1:(k:Int) < (n:Int):=oM
   go_wp2_with (go_at_call 55;refine qM (QR.o _) fun w2 hb=>?_;replace ON:=zH (ON.o.below hb (lR _) (fun _ h=>h.elim));obtain ⟨FR,BQ⟩:=uz2 hb FR BQ;clear hb d0 d1 d2)
   obtain ⟨b,o,rfl,-,-,cx,ix⟩:=(zO HL FR).int_at k hlt
   have FS:=zH (dz (fun i=>cO (l.getD i 0) m s z lo hi) k)
   obtain ⟨x,hx⟩:∃ x,l.getD k 0=x:=⟨_,rfl⟩
   rw [hx] at cx ix
   have CX:=zH (HD.o x ix)
   have FE:=zH (show cO (l.getD k 0) m s z lo hi=cO x m s z lo hi by rw [hx])
   obtain ⟨res,hres⟩:∃ r,cO x m s z lo hi=r:=⟨_,rfl⟩
   rw [hres] at CX FE
   have RE:=zH (show InK .i8 res by rw [← hres];exact uq _ _ _ _ _ _)
   have OD:=zH (ON.o.heap (w':=w2.drew) rfl)
   have fd:Below w w w2.drew:=FR.u.drew
   have bd:=BQ.o.lt
   have cd:=ao ((show Below w2 w2 w2.drew from (qB _ _).drew)) cx
   have hb9:b < w.heap.size:=by
    obtain ⟨b',o',e',q1,q2,-,-⟩:=HL.o.int_at k hlt
    simp only [Option.some.injEq,Addr.mk.injEq,and_true] at e'
    rw [e'.1]
    exact q1
   have nu:=zH (show ∀ b,b < w1.heap.size → some b ≠ u9.ownBlock from fun b hb e=>absurd (ON.o.lt b e.symm).1 oM)
   clear hx hres cx
   refine aJ (fun w'=>w'.cell? ⟨b,o+k,none⟩=some (.int .i32 x)∧Blk w' w.heap.size 40 #[.int .i32 m,.int .i64 s,.int .i8 z]∧Below w w w') 11 kM ?_ (fun hS=>?_)
   ·exact ⟨cd,BQ.o.drew,fd⟩
   refine kT' 0 hS ?_
   refine kT' 1 hS ?_
   refine kT' 2 hS ?_
   refine kT' 3 hS ?_
   refine kT' 4 hS ?_
   refine tkT 5 rfl (yP #[.int .i32 m,.int .i64 s,.int .i8 z] (fun w hs=>hs.2.1)) hS ?_
   try simp only [pX]
   refine kT' 6 hS ?_
   refine kT' 7 hS ?_
   refine rT 8 (fun K hK=>?_)
   go_simp
   refine qM (CX.o _) fun wa hb=>?_;have OA:=zH (OD.o.below hb (lR _) (fun _ h=>h.elim));have za:w1.heap.size≤wa.heap.size:=(by have:=hb.size;have:w2.drew.heap.size=w2.heap.size:=rfl;omega);have XX:=zH (And.intro (ao hb cd) (And.intro (BQ.o.drew.later hb) (ai fd hb fd.size)))
   refine xK hK (zR hb hS) fun hS=>?_
   clear hK K
   refine rT 9 (fun K hK=>?_)
   go_simp
   have hb:Below wa wa (wa.alloc (.cells #[.int .i8 res] 37)):=(qB _ _).alloc (lR _) _
   refine xK hK (zR hb hS) fun hS=>?_
   clear hK K
   refine rT 10 (fun K hK=>?_)
   (rw [if_pos (by rfl)];refine cU (W:=wa) (cs:=#[.int .i8 res]) (E:=37) (t:=aa .i8) (.tmp 21) (.tmp 30) rfl dy rfl OA.o 1 rfl res ⟨rfl,RE.o⟩ (by unfold maxLen;omega) oM za (fun _ h=>h.elim) ?_;intro u' w7 own7 g7 at7;refine hK.out _ _ ⟨bF g7 XX.o.1 (nu.out b oM),XX.o.2.1.rowR g7 (nu.out _ oM),XX.o.2.2.grown g7 XX.o.2.2.size (fun j hj=>lT oM (OA.o.lt j hj).1)⟩ (fun hS=>?_))
   clear hK K
   try simp only [pX]
   refine wpAnyT_tail _ _ rfl rfl kM ?_
   have F7:=zH (show Far w w7 from ⟨hS.2.2⟩)
   have B7:=zH hS.2.1
   have fs:=FS.o
   rw [FE.out] at fs
   rw [fs] at own7
   have O7:=zH own7
   clear hS hb nu at7 g7 own7 fs cd
   go_wp2
   exact ⟨⟨k+1,by omega,by go_num,F7.o,B7.o,O7.o⟩,by simp [intOf];omega⟩
  ·obtain rfl:k=n:=oM
   go_wp2
   go_ret
   obtain ⟨A2,c2,rfl,sl⟩:=ON.o.sl (S':=bin w.heap.size _) dM (fun b h1 h2=>⟨by omega,h2⟩) (fun b h=>h.elim)
   exact ⟨_,_,_,rfl,sl,FR.u⟩
def dP (d:af) (x:Int):Int:=cO (x - d.za) d.qm d.qs d.qz d.lo d.hi
theorem oN (d:af) (x:Int):InK .i8 (dP d x):=uq _ _ _ _ _ _
theorem oX (x:Int) (d:af) (W:QA) (nw cw:Nat) (B:QA) (nb cb:Nat) (w:World) (hx:InK .i8 x) (hd:aE d) :
  Calls prog 125 #[.int .i8 x,.agg (nD d W nw cw B nb cb)] w fun e w'=>e=.returned (.int .i8 (dP d x))∧Below w w w':=by
 have hz:=hd.za
 have HX:=hx
 rw [aT] at hx hz
 obtain ⟨x1,x2⟩:=hx
 obtain ⟨z1,z2⟩:=hz
 have FR:=zW w
 obtain ⟨w1,yw1,BN,FR⟩:=nF FR (nD d W nw cw B nb cb) 42
 have HE:=zH (fun w=>iM (x - d.za) d.qm d.qs d.qz d.lo d.hi w (by rw [bE];omega) hd.qm hd.qz hd.lo hd.hi)
 obtain ⟨d7,d17,d18⟩:=uc3 BN 7 17 18
 unfold dP
 clear hd HX
 go_in
 go_wp2_with (first|(refine lQJ 40 #[.int .i32 d.qm,.int .i64 d.qs,.int .i8 d.qz] BN.o ?_)|(go_at_call 152;refine qM (HE.o _) fun w2 hb=>?_))
 go_ret
 exact ⟨rfl,(FR.o.fut hb).out⟩
theorem nX (x:Int) (d:af) (W:QA) (nw cw:Nat) (B:QA) (nb cb:Nat) (w:World) (hx:InK .i8 x) (hd:aE d) :
  Calls prog 64 #[.int .i8 x,.agg (nD d W nw cw B nb cb)] w fun e w'=>e=.returned (.int .i8 (dP d x))∧Below w w w':=by
 have hz:=hd.za
 have HX:=hx
 rw [aT] at hx hz
 obtain ⟨x1,x2⟩:=hx
 obtain ⟨z1,z2⟩:=hz
 have FR:=zW w
 obtain ⟨w1,yw1,BN,FR⟩:=nF FR (nD d W nw cw B nb cb) 42
 have HE:=zH (fun w=>il (x - d.za) d.qm d.qs d.qz d.lo d.hi w (by rw [bE];omega) hd.qm hd.qz hd.lo hd.hi)
 obtain ⟨d7,d17,d18⟩:=uc3 BN 7 17 18
 unfold dP
 clear hd HX
 go_in
 go_wp2_with (first|(refine lQJ 40 #[.int .i32 d.qm,.int .i64 d.qs,.int .i8 d.qz] BN.o ?_)|(go_at_call 99;refine qM (HE.o _) fun w2 hb=>?_))
 go_ret
 exact ⟨rfl,(FR.o.fut hb).out⟩
def fa (a:ae) (d:af):ae × Int:=if aq d.qm d.qs=true then (⟨a.h,a.v,a.c,eD a.data d.qm d.qs d.qz d.lo d.hi⟩,0) else (aj,7)
theorem oY (a:ae) (A:QA) (n cap:Nat) (d:af) (W:QA) (nw cw:Nat) (B:QA) (nb cb:Nat) (w:World) (ht:ak a) (hd:aE d)
  (ha:xB w A n cap a.data) (he:ab a.h a.v a.c=n) (hn:0 < n) (hn2:n≤1024) :
  Calls prog 93 #[.agg (tN a.h a.v a.c A n cap),.agg (nD d W nw cw B nb cb)] w (ar .i8 (fa a d).1 (fa a d).2 w):=by
 have EL:=zH (fun w=>bQ a.h a.c a.v w ht.h ht.v ht.c)
 rw [he] at EL
 have QR:=zH (fun w=>cR d.qm d.qs d.qz w)
 have HA:=zH ha
 have HD:=zH hd
 have FR:=zW w
 obtain ⟨w1,w2,w3,yw1,yw2,yw3,l1,l2,_,BA,BN,BR,yk3⟩:=bk3 w (tN a.h a.v a.c A n cap) 80 (nD d W nw cw B nb cb) 42 (tN 0 0 0 none 0 0) 27
 replace FR:=zF yk3 FR
 clear yk3
 have n0:¬ n=0:=oM
 have HQ:=zH (show fa a d=if aq d.qm d.qs=true then (⟨a.h,a.v,a.c,eD a.data d.qm d.qs d.qz d.lo d.hi⟩,0) else (aj,7) from rfl)
 obtain ⟨x,hx⟩:∃ x,fa a d=x:=⟨_,rfl⟩
 rw [hx] at HQ ⊢
 obtain ⟨q,hq⟩:∃ q,aq d.qm d.qs=q:=⟨_,rfl⟩
 rw [hq] at QR HQ
 have QQ:=zH hq
 have c3:=BA.o.cell 3
 clear ht hd ha he hx hq hn
 cases q with
 | false =>
  rw [if_neg dM] at HQ
  rw [HQ.o]
  go_in
  go_wp2_with (first|(refine lQJ 24 (sN a.h a.v a.c) BA.o ?_)|(go_at_call 20;refine qM (EL.o _) fun wa hb=>?_;obtain ⟨FR,BA,BN,BR⟩:=uz4 hb FR BA BN BR;clear hb;clear c3;have c3:=BA.o.cell 3)|(refine lQJ 40 #[.int .i32 d.qm,.int .i64 d.qs,.int .i8 d.qz] BN.o ?_)|(go_at_call 81;refine qM (QR.o _) fun wb hb=>?_;obtain ⟨FR,BA,BN,BR⟩:=uz4 hb FR BA BN BR;clear hb)|(refine sGJ19 (tN 0 0 0 none 0 0) BR.o ?_;intro w9 B9 g9))
  refine rG B9 ?_
  exact ar.none (FR.o.away g9 oM).out
 | true =>
  rw [if_pos rfl] at HQ
  rw [HQ.o]
  go_in
  go_wp2_with (first|(refine lQJ 24 (sN a.h a.v a.c) BA.o ?_)|(go_at_call 20;refine qM (EL.o _) fun wa hb=>?_;obtain ⟨FR,BA,BN,BR⟩:=uz4 hb FR BA BN BR;clear hb;clear c3;have c3:=BA.o.cell 3)|(refine lQJ 40 #[.int .i32 d.qm,.int .i64 d.qs,.int .i8 d.qz] BN.o ?_)|(go_at_call 81;refine qM (QR.o _) fun wb hb=>?_;obtain ⟨FR,BA,BN,BR⟩:=uz4 hb FR BA BN BR;clear hb))
  have fd:Below w w wb.drew:=FR.u.drew
  refine aJ (fun w'=>w'.cell? ⟨w.heap.size,3,none⟩=some (.slice A n cap)∧w'.cell? ⟨w1.heap.size,17,none⟩=some (.int .i8 d.lo)∧w'.cell? ⟨w1.heap.size,18,none⟩=some (.int .i8 d.hi)∧Blk w' w.heap.size 80 (tN a.h a.v a.c A n cap)∧Blk w' w1.heap.size 42 (nD d W nw cw B nb cb)∧Below wb.drew.heap.size wb.drew w') 12 kM ?_ (fun hS=>?_)
  ·exact ⟨BA.o.drew.cell 3,BN.o.drew.cell 17,BN.o.drew.cell 18,BA.o.drew,BN.o.drew,qB _ _⟩
  refine kT' 0 hS ?_
  refine tkT 1 rfl (yP (sN a.h a.v a.c) (fun w hs=>hs.2.2.2.1)) hS ?_
  try simp only [pX]
  refine kT' 2 hS ?_
  refine kT' 3 hS ?_
  refine kT' 4 hS ?_
  refine tkT 5 rfl (yP #[.int .i32 d.qm,.int .i64 d.qs,.int .i8 d.qz] (fun w hs=>hs.2.2.2.2.1)) hS ?_
  try simp only [pX]
  refine kT' 6 hS ?_
  refine kT' 7 hS ?_
  refine kT' 8 hS ?_
  refine kT' 9 hS ?_
  refine rT 10 (fun K hK=>?_)
  go_simp
  refine (pl A n cap a.data d.qm d.qs d.qz d.lo d.hi _ ((Old.now HA.o).fut fd).all oM HD.o.qm HD.o.qz HD.o.lo HD.o.hi QQ.o).mono ?_;rintro e wm ⟨RA,rn,rc,rfl,rs,hb⟩
  refine xK hK (zR hb hS) fun hS=>?_
  clear hK K
  refine kT' 11 hS ?_
  refine wpAnyT_tail _ _ rfl rfl kM ?_
  have kd:=(show Below wb wb wb.drew from (qB _ _).drew).trans hb
  have RS:=zH (show New wb (aa .i8) wm RA rn rc (eD a.data d.qm d.qs d.qz d.lo d.hi) from ⟨rs⟩)
  have BR5:=zH (BR.o.fut kd)
  replace FR:=zF kd FR
  have lbr:=BR.o.lt
  clear hS hb rs kd
  go_wp2_with (refine sGJ19 (tN a.h a.v a.c RA rn rc) BR5.o ?_;intro w9 B9 g9)
  refine rG B9 ?_
  exact ⟨RA,rn,rc,rfl,(RS.o.away g9 lbr).out.more (aO oM (lR _)),(FR.o.away g9 oM).out⟩
theorem nY (a:ae) (A:QA) (n cap:Nat) (d:af) (W:QA) (nw cw:Nat) (B:QA) (nb cb:Nat) (w:World) (ht:ak a) (hd:aE d)
  (ha:xB w A n cap a.data) (he:ab a.h a.v a.c=n) (hn:0 < n) (hn2:n≤1024) :
  Calls prog 35 #[.agg (tN a.h a.v a.c A n cap),.agg (nD d W nw cw B nb cb)] w (ar .i8 (fa a d).1 (fa a d).2 w):=by
 have EL:=zH (fun w=>aQ a.h a.c a.v w ht.h ht.v ht.c)
 rw [he] at EL
 have QR:=zH (fun w=>bK d.qm d.qs d.qz w)
 have HA:=zH ha
 have HD:=zH hd
 have FR:=zW w
 obtain ⟨w1,w2,w3,yw1,yw2,yw3,l1,l2,_,BA,BN,BR,yk3⟩:=bk3 w (tN a.h a.v a.c A n cap) 80 (nD d W nw cw B nb cb) 42 (tN 0 0 0 none 0 0) 27
 replace FR:=zF yk3 FR
 clear yk3
 have n0:¬ n=0:=oM
 have HQ:=zH (show fa a d=if aq d.qm d.qs=true then (⟨a.h,a.v,a.c,eD a.data d.qm d.qs d.qz d.lo d.hi⟩,0) else (aj,7) from rfl)
 obtain ⟨x,hx⟩:∃ x,fa a d=x:=⟨_,rfl⟩
 rw [hx] at HQ ⊢
 obtain ⟨q,hq⟩:∃ q,aq d.qm d.qs=q:=⟨_,rfl⟩
 rw [hq] at QR HQ
 have QQ:=zH hq
 have c3:=BA.o.cell 3
 clear ht hd ha he hx hq hn
 cases q with
 | false =>
  rw [if_neg dM] at HQ
  rw [HQ.o]
  go_in
  go_wp2_with fail
  clear yw1 yw2 yw3 c3
  have x0:∀ q:Ext w3,q.1.cell? ⟨w.heap.size,0,none⟩=some (.int .i64 a.h):=fun q=>(BA.o.ext q).cell 0
  have x1:∀ q:Ext w3,q.1.cell? ⟨w.heap.size,1,none⟩=some (.int .i64 a.v):=fun q=>(BA.o.ext q).cell 1
  have x2:∀ q:Ext w3,q.1.cell? ⟨w.heap.size,2,none⟩=some (.int .i64 a.c):=fun q=>(BA.o.ext q).cell 2
  have x3:∀ q:Ext w3,q.1.cell? ⟨w.heap.size,3,none⟩=some (.slice A n cap):=fun q=>(BA.o.ext q).cell 3
  have E1:=zH (fun q:Ext w3=>aR q (EL.o q.1))
  have tt1:decide ((n:Int)=0)=false:=by simp;omega
  have tt2:((n:Int) == 0)=false:=by simp;omega
  refine aB w3 kM kM (qB _ _) ?_
  repeat (go_big_quiet_step ((exact E1.o _)))
  refine wpQuiet_nil ?_
  rintro _ ⟨⟨wa,hb⟩,rfl⟩
  obtain ⟨FR,BA,BN,BR⟩:=uz4 hb FR BA BN BR
  clear hb
  clear x0 x1 x2 x3 tt1 tt2 E1
  go_wp2_with (first|(refine lQJ 40 #[.int .i32 d.qm,.int .i64 d.qs,.int .i8 d.qz] BN.o ?_)|(go_at_call 55;refine qM (QR.o _) fun wb hb=>?_;obtain ⟨FR,BA,BN,BR⟩:=uz4 hb FR BA BN BR;clear hb)|(refine sGJ19 (tN 0 0 0 none 0 0) BR.o ?_;intro w9 B9 g9))
  refine rG B9 ?_
  exact ar.none (FR.o.away g9 oM).out
 | true =>
  rw [if_pos rfl] at HQ
  rw [HQ.o]
  go_in
  go_wp2_with fail
  clear yw1 yw2 yw3 c3
  have x0:∀ q:Ext w3,q.1.cell? ⟨w.heap.size,0,none⟩=some (.int .i64 a.h):=fun q=>(BA.o.ext q).cell 0
  have x1:∀ q:Ext w3,q.1.cell? ⟨w.heap.size,1,none⟩=some (.int .i64 a.v):=fun q=>(BA.o.ext q).cell 1
  have x2:∀ q:Ext w3,q.1.cell? ⟨w.heap.size,2,none⟩=some (.int .i64 a.c):=fun q=>(BA.o.ext q).cell 2
  have x3:∀ q:Ext w3,q.1.cell? ⟨w.heap.size,3,none⟩=some (.slice A n cap):=fun q=>(BA.o.ext q).cell 3
  have E1:=zH (fun q:Ext w3=>aR q (EL.o q.1))
  have tt1:decide ((n:Int)=0)=false:=by simp;omega
  have tt2:((n:Int) == 0)=false:=by simp;omega
  refine aB w3 kM kM (qB _ _) ?_
  repeat (go_big_quiet_step ((exact E1.o _)))
  refine wpQuiet_nil ?_
  rintro _ ⟨⟨wa,hb⟩,rfl⟩
  obtain ⟨FR,BA,BN,BR⟩:=uz4 hb FR BA BN BR
  clear hb
  clear x0 x1 x2 x3 tt1 tt2 E1
  go_wp2_with (first|(refine lQJ 40 #[.int .i32 d.qm,.int .i64 d.qs,.int .i8 d.qz] BN.o ?_)|(go_at_call 55;refine qM (QR.o _) fun wb hb=>?_;obtain ⟨FR,BA,BN,BR⟩:=uz4 hb FR BA BN BR;clear hb))
  have fd:Below w w wb.drew:=FR.u.drew
  refine aJ (fun w'=>w'.cell? ⟨w.heap.size,3,none⟩=some (.slice A n cap)∧w'.cell? ⟨w1.heap.size,17,none⟩=some (.int .i8 d.lo)∧w'.cell? ⟨w1.heap.size,18,none⟩=some (.int .i8 d.hi)∧Blk w' w.heap.size 80 (tN a.h a.v a.c A n cap)∧Blk w' w1.heap.size 42 (nD d W nw cw B nb cb)∧Below wb.drew.heap.size wb.drew w') 12 kM ?_ (fun hS=>?_)
  ·exact ⟨BA.o.drew.cell 3,BN.o.drew.cell 17,BN.o.drew.cell 18,BA.o.drew,BN.o.drew,qB _ _⟩
  refine kT' 0 hS ?_
  refine tkT 1 rfl (yP (sN a.h a.v a.c) (fun w hs=>hs.2.2.2.1)) hS ?_
  try simp only [pX]
  refine kT' 2 hS ?_
  refine kT' 3 hS ?_
  refine kT' 4 hS ?_
  refine tkT 5 rfl (yP #[.int .i32 d.qm,.int .i64 d.qs,.int .i8 d.qz] (fun w hs=>hs.2.2.2.2.1)) hS ?_
  try simp only [pX]
  refine kT' 6 hS ?_
  refine kT' 7 hS ?_
  refine kT' 8 hS ?_
  refine kT' 9 hS ?_
  refine rT 10 (fun K hK=>?_)
  go_simp
  refine (og A n cap a.data d.qm d.qs d.qz d.lo d.hi _ ((Old.now HA.o).fut fd).all oM HD.o.qm HD.o.qz HD.o.lo HD.o.hi QQ.o).mono ?_;rintro e wm ⟨RA,rn,rc,rfl,rs,hb⟩
  refine xK hK (zR hb hS) fun hS=>?_
  clear hK K
  refine kT' 11 hS ?_
  refine wpAnyT_tail _ _ rfl rfl kM ?_
  have kd:=(show Below wb wb wb.drew from (qB _ _).drew).trans hb
  have RS:=zH (show New wb (aa .i8) wm RA rn rc (eD a.data d.qm d.qs d.qz d.lo d.hi) from ⟨rs⟩)
  have BR5:=zH (BR.o.fut kd)
  replace FR:=zF kd FR
  have lbr:=BR.o.lt
  clear hS hb rs kd
  go_wp2_with (refine sGJ19 (tN a.h a.v a.c RA rn rc) BR5.o ?_;intro w9 B9 g9)
  refine rG B9 ?_
  exact ⟨RA,rn,rc,rfl,(RS.o.away g9 lbr).out.more (aO oM (lR _)),(FR.o.away g9 oM).out⟩
end Go.Proofs.YtmihnoagagbgaaaGreat
namespace Go.Proofs.YtmihnoagagbgaaaGreat
open Go.RowKit Go.ChangeShapes Go.WideShapes Tryz
set_option maxRecDepth 100000
set_option maxHeartbeats 16000000
theorem tG:EI prog 25 37 (.int .i8 0) 1 1:=⟨underlying25,by kernel_rfl,rfl,by decide⟩
theorem eF (A:QA) (n c:Nat) (l:List Int) (w:World) (h:xA w A n c l) (hn:n≤140737488351232) :
  Calls prog 24 #[.slice A n c] w (RetSl (aa .i8) w l):=by
 cases A with
 | none =>
  have hc:=h.nil_ rfl
  have hm:=h.cap_le
  obtain rfl:c=0:=hc
  obtain rfl:n=0:=oM
  obtain rfl:l=[]:=List.length_eq_zero_iff.1 h.n_eq
  clear h
  have q0:=fun w=>Lib.run_eql_slice_nil (P:=prog) w 25 37 none 0 0 0 0 underlying25
  simp only [Option.isNone_none] at q0
  go_in
  go_wp2
  go_ret
  exact ⟨none,0,0,rfl,Sl.nil _ _ _,qB _ _⟩
 | some ad =>
  have H:=zH h
  clear h
  have q0:=fun w=>Lib.run_eql_slice_nil (P:=prog) w 25 37 (some ad) n c 0 0 underlying25
  simp only [Option.isNone_some] at q0
  go_in
  have o0:=Own.lit0 (W:=w) (k:=.i8) (E:=37) (base:=w.heap.size) (lR _)
  have k0:Below w w (w.alloc (.cells #[] 37)):=(qB _ _).alloc (lR _) _
  have s0:=H.o.later k0 (lR _)
  go_wp2_with (at_builtin;refine ef rfl _ _ rfl tG rfl o0 rfl s0 (by unfold maxLen;omega) oM k0.size ?_;intro v' w' o' g' a')
  go_ret
  refine o'.ret dM (k0.grown g' k0.size (fun k h=>(o0.lt k h).1)) (fun b h=>h.elim)
theorem te:EI prog 38 21 (.int .i32 0) 1 4:=⟨underlying38,by kernel_rfl,rfl,by decide⟩
theorem gl (A:QA) (n c:Nat) (l:List Int) (w:World) (h:xB w A n c l) (hn:n≤35184372087808) :
  Calls prog 116 #[.slice A n c] w (RetSl (aa .i32) w l):=by
 cases A with
 | none =>
  have hc:=h.nil_ rfl
  have hm:=h.cap_le
  obtain rfl:c=0:=hc
  obtain rfl:n=0:=oM
  obtain rfl:l=[]:=List.length_eq_zero_iff.1 h.n_eq
  clear h
  have q0:=fun w=>Lib.run_eql_slice_nil (P:=prog) w 38 21 none 0 0 0 0 underlying38
  simp only [Option.isNone_none] at q0
  go_in
  go_wp2
  go_ret
  exact ⟨none,0,0,rfl,Sl.nil _ _ _,qB _ _⟩
 | some ad =>
  have H:=zH h
  clear h
  have q0:=fun w=>Lib.run_eql_slice_nil (P:=prog) w 38 21 (some ad) n c 0 0 underlying38
  simp only [Option.isNone_some] at q0
  go_in
  have o0:=Own.lit0 (W:=w) (k:=.i32) (E:=21) (base:=w.heap.size) (lR _)
  have k0:Below w w (w.alloc (.cells #[] 21)):=(qB _ _).alloc (lR _) _
  have s0:=H.o.later k0 (lR _)
  go_wp2_with (at_builtin;refine ef rfl _ _ rfl te rfl o0 rfl s0 (by unfold maxLen;omega) oM k0.size ?_;intro v' w' o' g' a')
  go_ret
  refine o'.ret dM (k0.grown g' k0.size (fun k h=>(o0.lt k h).1)) (fun b h=>h.elim)
theorem ny (h v c p:Int) (w:World) (hb:1≤h∧h≤16∧1≤v∧v≤16∧1≤c∧c≤1024) (hp:InK .i64 p) :
  Calls prog 136 #[.agg (sN h v c),.int .i64 p] w fun e w'=>e=aL (cI h v c p)∧Below w w w':=by
 obtain ⟨r,hr⟩:∃ r,cI h v c p=r:=⟨_,rfl⟩
 rw [hr]
 unfold cI at hr
 have VV:=zH hr.symm
 clear hr hp
 have FR:=zW w
 obtain ⟨w1,w2,yw1,yw2,l1,l2,BA,BR,yk2⟩:=bk2 w (sN h v c) 24 (sN 0 0 0) 24
 replace FR:=zF yk2 FR
 clear yk2
 by_cases c1:p < 0
 ·have t1:decide (p < 0)=true:=qT c1
  have R:=zH (show r=noS 2 by rw [VV.o,if_pos (.inl c1)])
  clear c1 VV hb
  go_in
  go_wp2_with (first
   | (refine sGJ19 (sN 0 0 0) BR.o ?_;intro w7 BR7 g7))
  refine rG BR7 ?_;exact ⟨by rw [R.o];rfl,(FR.o.away g7 oM).out⟩
 have t1:decide (p < 0)=false:=dF c1
 have p1:0≤p:=oM
 clear c1
 by_cases c1:4 < p
 ·have t2:decide (4 < p)=true:=qT c1
  have R:=zH (show r=noS 2 by rw [VV.o,if_pos (.inr c1)])
  clear c1 VV hb
  go_in
  go_wp2_with (first
   | (refine sGJ19 (sN 0 0 0) BR.o ?_;intro w7 BR7 g7))
  refine rG BR7 ?_;exact ⟨by rw [R.o];rfl,(FR.o.away g7 oM).out⟩
 have t2:decide (4 < p)=false:=dF c1
 have p2:p≤4:=oM
 clear c1
 have R1:=zH (fun w=>aP (h+2*p) c (v+2*p) w (by rw [ah];omega) (by rw [ah];omega) (by rw [ah];omega))
 have e1:IntKind.i64.wrap (2*p)=2*p:=wJ
 have e2:IntKind.i64.wrap (h+2*p)=h+2*p:=wJ
 have e3:IntKind.i64.wrap (v+2*p)=v+2*p:=wJ
 have m0:=(aC (h+2*p) (v+2*p) c).1
 have V2:=zH (show r=(if ab (h+2*p) (v+2*p) c=0 then noS 5 else ((h+2*p,v+2*p,c),0)) by rw [VV.o,if_neg oM])
 obtain ⟨m,hm⟩:∃ m,ab (h+2*p) (v+2*p) c=m:=⟨_,rfl⟩
 rw [hm] at V2 R1 m0
 clear VV hm hb p1 p2
 obtain ⟨a0,a1,a2⟩:=uc3 BA 0 1 2
 obtain ⟨w3,yw3,BT,yk3⟩:=nB w2 (sN 0 0 0) 24
 obtain ⟨FR,BA,BR⟩:=uz3 yk3 FR BA BR
 clear yk3
 by_cases c3:m=0
 ·have t3:decide (0 < m)=false:=by simp;omega
  have R:=zH (show r=noS 5 by rw [V2.o,if_pos c3])
  clear V2 c3 m0
  go_in
  go_wp2_with (first
   | (refine wpList_store_all rfl 24 (.tmp 6) (.tmp 26) rfl w2.heap.size (sN (h+2*p) (v+2*p) c) rfl rfl _ _ BT.o rfl kM (by simp [Value.oneCell']) ?_;intro w6 BT6 g6;have BR6:=zA g6 BR;have FR6:=zA g6 FR)
   | (refine lGJ19 BT6 ?_))
  clear yw1 yw2 yw3 a0 a1 a2
  refine qM (R1.o _) fun w5 hb=>?_
  have BT5:=zH (BT6.fut hb)
  obtain ⟨BR6,FR6⟩:=uz2 hb BR6 FR6
  clear hb
  go_wp2_with (first
   | (refine sGJ19 (sN 0 0 0) BR6.o ?_;intro w7 BR7 g7))
  refine rG BR7 ?_;exact ⟨by rw [R.o];rfl,(FR6.o.away g7 oM).out⟩
 have t3:decide (0 < m)=true:=by simp;omega
 have R:=zH (show r=((h+2*p,v+2*p,c),0) by rw [V2.o,if_neg c3])
 clear V2 c3 m0
 go_in
 go_wp2_with (first
  | (refine wpList_store_all rfl 24 (.tmp 6) (.tmp 26) rfl w2.heap.size (sN (h+2*p) (v+2*p) c) rfl rfl _ _ BT.o rfl kM (by simp [Value.oneCell']) ?_;intro w6 BT6 g6;have BR6:=zA g6 BR;have FR6:=zA g6 FR)
  | (refine lGJ19 BT6 ?_))
 clear yw1 yw2 yw3 a0 a1 a2
 refine qM (R1.o _) fun w5 hb=>?_
 have BT5:=zH (BT6.fut hb)
 obtain ⟨BR6,FR6⟩:=uz2 hb BR6 FR6
 clear hb
 go_wp2_with (first
  | (refine lGJ19 BT5.o ?_)
  | (refine wpList_store_all rfl 24 (.tmp 4) (.tmp 31) rfl w1.heap.size (sN (h+2*p) (v+2*p) c) rfl rfl _ _ BR6.o rfl kM (by simp [Value.oneCell']) ?_;intro w7 BR7 g7))
 refine rG BR7 ?_;exact ⟨by rw [R.o];rfl,(FR6.o.away g7 oM).out⟩
theorem kW (h v c h2 v2 c2:Int) (d:af) (W:QA) (nw cw:Nat) (B:QA) (nb cb:Nat) (w:World) (i0:InK .i64 h) (i1:InK .i64 v) (i2:InK .i64 c) (hout:InK .i64 d.out) (hp:InK .i64 d.p) (hnw:nw=d.w.length) (hnb:nb=d.bias.length) (mw:nw≤1048576) (mb:nb≤1048576) (e:d.kind=1) :
  Calls prog 28 #[.agg (nD d W nw cw B nb cb),.agg (sN h v c),.agg (sN h2 v2 c2)] w fun e w'=>e=aL (aD h v c h2 v2 c2 d)∧Below w w w':=by
 obtain ⟨r,hr⟩:∃ r,aD h v c h2 v2 c2 d=r:=⟨_,rfl⟩
 rw [hr]
 unfold aD at hr
 have VV:=zH hr.symm
 clear hr
 have FR:=zW w
 obtain ⟨w1,w2,w3,w4,yw1,yw2,yw3,yw4,l1,l2,l3,l4,BN,BA,BB,BR,yk4⟩:=bk4 w (nD d W nw cw B nb cb) 42 (sN h v c) 24 (sN h2 v2 c2) 24 (sN 0 0 0) 24
 replace FR:=zF yk4 FR
 clear yk4
 have n0:=BN.o.cell 0
 ·skip
  have k1:(d.kind == 1)=true:=by simp [e]
  have k2:(d.kind == 2)=false:=by simp [e]
  have k3:(d.kind == 3)=false:=by simp [e]
  have k4:(d.kind == 4)=false:=by simp [e]
  have k5:(d.kind == 5)=false:=by simp [e]
  have k6:(d.kind == 6)=false:=by simp [e]
  have k8:(d.kind == 8)=false:=by simp [e]
  have k9:(d.kind == 9)=false:=by simp [e]
  have kl:decide (d.kind < 1)=false:=by simp [e]
  have kg:decide (9 < d.kind)=false:=by simp [e]
  have CN:=zH (fun w=>fb h v c d W nw cw B nb cb w i0 i1 i2 hout hnw hnb mw mb)
  obtain ⟨⟨⟨x1,x2,x3⟩,xe⟩,hx⟩:∃ x,aN h v c d=x:=⟨_,rfl⟩
  have R:=zH (show r=((x1,x2,x3),xe) by rw [VV.o,← hx];simp [e])
  rw [hx] at CN
  simp only [aL] at CN
  clear VV hx e i0 i1 i2 hout hp hnw hnb mw mb
  go_in
  go_wp2_with (first
   | (refine lGJ19 BA.o ?_)
   | (refine lGJ19 BN.o ?_))
  clear yw1 yw2 yw3 yw4 n0
  refine qM (CN.o _) fun w5 hb=>?_
  obtain ⟨FR,BN,BA,BB,BR⟩:=uz5 hb FR BN BA BB BR
  clear hb
  go_wp2_with (first
   | (refine sGJ19 (sN x1 x2 x3) BR.o ?_;intro w7 BR7 g7))
  refine rG BR7 ?_;exact ⟨by rw [R.o];rfl,(FR.o.away g7 oM).out⟩
theorem kX (h v c h2 v2 c2:Int) (d:af) (W:QA) (nw cw:Nat) (B:QA) (nb cb:Nat) (w:World) (i0:InK .i64 h) (i1:InK .i64 v) (i2:InK .i64 c) (hout:InK .i64 d.out) (hp:InK .i64 d.p) (hnw:nw=d.w.length) (hnb:nb=d.bias.length) (mw:nw≤1048576) (mb:nb≤1048576) (e:d.kind=2) :
  Calls prog 28 #[.agg (nD d W nw cw B nb cb),.agg (sN h v c),.agg (sN h2 v2 c2)] w fun e w'=>e=aL (aD h v c h2 v2 c2 d)∧Below w w w':=by
 obtain ⟨r,hr⟩:∃ r,aD h v c h2 v2 c2 d=r:=⟨_,rfl⟩
 rw [hr]
 unfold aD at hr
 have VV:=zH hr.symm
 clear hr
 have FR:=zW w
 obtain ⟨w1,w2,w3,w4,yw1,yw2,yw3,yw4,l1,l2,l3,l4,BN,BA,BB,BR,yk4⟩:=bk4 w (nD d W nw cw B nb cb) 42 (sN h v c) 24 (sN h2 v2 c2) 24 (sN 0 0 0) 24
 replace FR:=zF yk4 FR
 clear yk4
 have n0:=BN.o.cell 0
 ·skip
  have k1:(d.kind == 1)=false:=by simp [e]
  have k2:(d.kind == 2)=true:=by simp [e]
  have k3:(d.kind == 3)=false:=by simp [e]
  have k4:(d.kind == 4)=false:=by simp [e]
  have k5:(d.kind == 5)=false:=by simp [e]
  have k6:(d.kind == 6)=false:=by simp [e]
  have k8:(d.kind == 8)=false:=by simp [e]
  have k9:(d.kind == 9)=false:=by simp [e]
  have kl:decide (d.kind < 1)=false:=by simp [e]
  have kg:decide (9 < d.kind)=false:=by simp [e]
  have CN:=zH (fun w=>eP h v c d W nw cw B nb cb w i0 i1 i2 hout hnw hnb mw mb)
  obtain ⟨⟨⟨x1,x2,x3⟩,xe⟩,hx⟩:∃ x,aM h v c d=x:=⟨_,rfl⟩
  have R:=zH (show r=((x1,x2,x3),xe) by rw [VV.o,← hx];simp [e])
  rw [hx] at CN
  simp only [aL] at CN
  clear VV hx e i0 i1 i2 hout hp hnw hnb mw mb
  go_in
  go_wp2_with (first
   | (refine lGJ19 BA.o ?_)
   | (refine lGJ19 BN.o ?_))
  clear yw1 yw2 yw3 yw4 n0
  refine qM (CN.o _) fun w5 hb=>?_
  obtain ⟨FR,BN,BA,BB,BR⟩:=uz5 hb FR BN BA BB BR
  clear hb
  go_wp2_with (first
   | (refine sGJ19 (sN x1 x2 x3) BR.o ?_;intro w7 BR7 g7))
  refine rG BR7 ?_;exact ⟨by rw [R.o];rfl,(FR.o.away g7 oM).out⟩
theorem kY (h v c h2 v2 c2:Int) (d:af) (W:QA) (nw cw:Nat) (B:QA) (nb cb:Nat) (w:World) (i0:InK .i64 h) (i1:InK .i64 v) (i2:InK .i64 c) (hout:InK .i64 d.out) (hp:InK .i64 d.p) (hnw:nw=d.w.length) (hnb:nb=d.bias.length) (mw:nw≤1048576) (mb:nb≤1048576) (e:d.kind=3) :
  Calls prog 28 #[.agg (nD d W nw cw B nb cb),.agg (sN h v c),.agg (sN h2 v2 c2)] w fun e w'=>e=aL (aD h v c h2 v2 c2 d)∧Below w w w':=by
 obtain ⟨r,hr⟩:∃ r,aD h v c h2 v2 c2 d=r:=⟨_,rfl⟩
 rw [hr]
 unfold aD at hr
 have VV:=zH hr.symm
 clear hr
 have FR:=zW w
 obtain ⟨w1,w2,w3,w4,yw1,yw2,yw3,yw4,l1,l2,l3,l4,BN,BA,BB,BR,yk4⟩:=bk4 w (nD d W nw cw B nb cb) 42 (sN h v c) 24 (sN h2 v2 c2) 24 (sN 0 0 0) 24
 replace FR:=zF yk4 FR
 clear yk4
 have n0:=BN.o.cell 0
 ·skip
  have k1:(d.kind == 1)=false:=by simp [e]
  have k2:(d.kind == 2)=false:=by simp [e]
  have k3:(d.kind == 3)=true:=by simp [e]
  have k4:(d.kind == 4)=false:=by simp [e]
  have k5:(d.kind == 5)=false:=by simp [e]
  have k6:(d.kind == 6)=false:=by simp [e]
  have k8:(d.kind == 8)=false:=by simp [e]
  have k9:(d.kind == 9)=false:=by simp [e]
  have kl:decide (d.kind < 1)=false:=by simp [e]
  have kg:decide (9 < d.kind)=false:=by simp [e]
  have CN:=zH (fun w=>mD h v c d W nw cw B nb cb w i0 i1 i2 hout hnw hnb mw mb)
  obtain ⟨⟨⟨x1,x2,x3⟩,xe⟩,hx⟩:∃ x,dq h v c d=x:=⟨_,rfl⟩
  have R:=zH (show r=((x1,x2,x3),xe) by rw [VV.o,← hx];simp [e])
  rw [hx] at CN
  simp only [aL] at CN
  clear VV hx e i0 i1 i2 hout hp hnw hnb mw mb
  go_in
  go_wp2_with (first
   | (refine lGJ19 BA.o ?_)
   | (refine lGJ19 BN.o ?_))
  clear yw1 yw2 yw3 yw4 n0
  refine qM (CN.o _) fun w5 hb=>?_
  obtain ⟨FR,BN,BA,BB,BR⟩:=uz5 hb FR BN BA BB BR
  clear hb
  go_wp2_with (first
   | (refine sGJ19 (sN x1 x2 x3) BR.o ?_;intro w7 BR7 g7))
  refine rG BR7 ?_;exact ⟨by rw [R.o];rfl,(FR.o.away g7 oM).out⟩
theorem ol (h v c h2 v2 c2:Int) (d:af) (W:QA) (nw cw:Nat) (B:QA) (nb cb:Nat) (w:World) (i0:InK .i64 h) (i1:InK .i64 v) (i2:InK .i64 c) (hout:InK .i64 d.out) (hp:InK .i64 d.p) (hnw:nw=d.w.length) (hnb:nb=d.bias.length) (mw:nw≤1048576) (mb:nb≤1048576) (hk:1≤d.kind∧d.kind≤9) :
  Calls prog 28 #[.agg (nD d W nw cw B nb cb),.agg (sN h v c),.agg (sN h2 v2 c2)] w fun e w'=>e=aL (aD h v c h2 v2 c2 d)∧Below w w w':=by
 rcases (show d.kind=1 ∨ d.kind=2 ∨ d.kind=3 ∨ d.kind=4 ∨ d.kind=5 ∨ d.kind=6 ∨ d.kind=7 ∨ d.kind=8 ∨ d.kind=9 by omega) with e|e|e|e|e|e|e|e|e
 ·exact kW h v c h2 v2 c2 d W nw cw B nb cb w i0 i1 i2 hout hp hnw hnb mw mb e
 ·exact kX h v c h2 v2 c2 d W nw cw B nb cb w i0 i1 i2 hout hp hnw hnb mw mb e
 ·exact kY h v c h2 v2 c2 d W nw cw B nb cb w i0 i1 i2 hout hp hnw hnb mw mb e
 ·exact kZ h v c h2 v2 c2 d W nw cw B nb cb w i0 i1 i2 hout hp hnw hnb mw mb e
 ·exact lc h v c h2 v2 c2 d W nw cw B nb cb w i0 i1 i2 hout hp hnw hnb mw mb e
 ·exact ld h v c h2 v2 c2 d W nw cw B nb cb w i0 i1 i2 hout hp hnw hnb mw mb e
 ·exact lf h v c h2 v2 c2 d W nw cw B nb cb w i0 i1 i2 hout hp hnw hnb mw mb e
 ·exact lh h v c h2 v2 c2 d W nw cw B nb cb w i0 i1 i2 hout hp hnw hnb mw mb e
 ·exact li h v c h2 v2 c2 d W nw cw B nb cb w i0 i1 i2 hout hp hnw hnb mw mb e
end Go.Proofs.YtmihnoagagbgaaaGreat
