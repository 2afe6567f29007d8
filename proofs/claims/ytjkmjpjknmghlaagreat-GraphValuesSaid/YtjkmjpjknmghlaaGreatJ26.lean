/-
  Windows as rows (layer 12): patch.over where the places are right.
  Windows as rows (layers 12, 14): a row of the windows times a row of weights is the window's sum.
  The greatest number (layer 19: pool.greatest, slices.Max).
  An empty row of a call's own.
  slices.Clone of []int8.
  copy into a slice of the call's own (numbers): what went over lies there.
  A slice of one number, many times (slices.Repeat).
  slices.Clone of []int32.
  Lists alike, element by element.
  slices.Equal of []int32.
-/
import Derived.Test.YtjkmjpjknmghlaaGreatJ25
import Derived.Deep.DeepCutAuto
import Derived.Deep.CutBlock
set_option linter.unusedVariables false
set_option linter.unusedSimpArgs false
namespace Go.Proofs.YtjkmjpjknmghlaaGreat
open Go.RowKit Go.ChangeShapes Go.WideShapes Fx
set_option maxRecDepth 100000
set_option maxHeartbeats 4000000
theorem slide_one {H V C:Nat} {d:Node} {o:Int} {Ho Wo Co:Nat} (h:slideV H V C d.k d.s d.p o=(((Ho:Int),(Wo:Int),(Co:Int)),0)):slideV H V C d.k d.s d.p 1=(((Ho:Int),(Wo:Int),1),0):=by
 obtain ⟨K,S,P,Ho',Wo',Co',WK,e1,e2,e3,e4,-⟩:=slide_nat h
 obtain rfl:Ho=Ho':=by omega
 obtain rfl:Wo=Wo':=by omega
 unfold slideV at h ⊢
 by_cases c1:elems H V C=0
 ·rw [if_pos c1] at h;cases (Prod.mk.inj h).2
 rw [if_neg c1] at h ⊢
 by_cases c2:(stepsV H d.k d.s d.p).2 ≠ 0
 ·rw [if_pos c2] at h;exact absurd (Prod.mk.inj h).2 c2
 rw [if_neg c2] at h ⊢
 by_cases c3:(stepsV V d.k d.s d.p).2 ≠ 0
 ·rw [if_pos c3] at h;exact absurd (Prod.mk.inj h).2 c3
 rw [if_neg c3] at h ⊢
 by_cases c4:elems (stepsV H d.k d.s d.p).1 (stepsV V d.k d.s d.p).1 o=0
 ·rw [if_pos c4] at h;cases (Prod.mk.inj h).2
 rw [if_neg c4] at h
 have h':=(Prod.mk.inj h).1
 have f1:=(Prod.mk.inj h').1
 have f2:=(Prod.mk.inj (Prod.mk.inj h').2).1
 rw [f1,f2]
 have e:elems (Ho:Int) (Wo:Int) 1=((Ho*Wo:Nat):Int):=by
  have a:=WK.ho1
  have b:=WK.wo1
  have:Ho*Wo≤256:=Nat.mul_le_mul a.2 b.2
  rw [elems_iff,if_pos ⟨by omega,by omega,by omega,by omega,by omega,by omega,by rw [Int.mul_one,← Int.natCast_mul];omega⟩,Int.mul_one,← Int.natCast_mul]
 have hp:0 < Ho*Wo:=Nat.mul_pos (by have:=WK.ho1;omega) (by have:=WK.wo1;omega)
 rw [e,if_neg (by omega)]
theorem over_any (H V C:Nat) (d:Node) (W:Option Addr) (nw cw:Nat) (B:Option Addr) (nb cb:Nat) (Ho Wo:Nat) (w:World) (h1:H≤16) (v1:V≤16) (c1:C≤1024) (hs:slideV H V C d.k d.s d.p 1=(((Ho:Int),(Wo:Int),1),0)) :
  Calls Tryz.prog 145 #[.agg (sN H V C),.agg (nN d.kind d.a d.b d.k d.s d.p d.out d.za d.zb W nw cw B nb cb d.qm d.qs d.qz d.rm d.rs d.rz d.lo d.hi)] w fun e w'=>e=.returned (.tuple #[.agg #[.int .i64 H,.int .i64 V,.int .i64 C,.int .i64 d.kind,.int .i64 d.a,.int .i64 d.b,.int .i64 d.k,.int .i64 d.s,.int .i64 d.p,.int .i64 d.out,.int .i8 d.za,.int .i8 d.zb,.slice W nw cw,.slice B nb cb,.int .i32 d.qm,.int .i64 d.qs,.int .i8 d.qz,.int .i32 d.rm,.int .i64 d.rs,.int .i8 d.rz,.int .i8 d.lo,.int .i8 d.hi,.int .i64 Ho,.int .i64 Wo,.int .i64 1],.int .i64 0])∧Below w.heap.size w w':=by
 have SD:=zH (fun w=>slide_any (H:Int) V C d.k d.s d.p 1 w (by rw [inK_i64];omega) (by rw [inK_i64];omega) (by rw [inK_i64];omega) (by decide))
 rw [hs] at SD
 simp only [retS] at SD
 have FR:=zH (Far.refl w)
 obtain ⟨w1,hw_w1,BS,k_w1⟩:=nB w (sN H V C) 24
 replace FR:=zH (FR.out.fut k_w1)
 clear k_w1
 obtain ⟨w2,hw_w2,BN,k_w2⟩:=nB w1 (nN d.kind d.a d.b d.k d.s d.p d.out d.za d.zb W nw cw B nb cb d.qm d.qs d.qz d.rm d.rs d.rz d.lo d.hi) 44
 replace FR:=zH (FR.out.fut k_w2)
 replace BS:=zH (BS.out.fut k_w2)
 clear k_w2
 obtain ⟨w3,hw_w3,BR,k_w3⟩:=nB w2 #[.int .i64 0,.int .i64 0,.int .i64 0,Value.int .i64 0,Value.int .i64 0,Value.int .i64 0,Value.int .i64 0,Value.int .i64 0,Value.int .i64 0,Value.int .i64 0,Value.int .i8 0,Value.int .i8 0,Value.slice none 0 0,Value.slice none 0 0,Value.int .i32 0,Value.int .i64 0,Value.int .i8 0,Value.int .i32 0,Value.int .i64 0,Value.int .i8 0,Value.int .i8 0,Value.int .i8 0,.int .i64 0,.int .i64 0,.int .i64 0] 187
 replace FR:=zH (FR.out.fut k_w3)
 replace BS:=zH (BS.out.fut k_w3)
 replace BN:=zH (BN.out.fut k_w3)
 clear k_w3
 have l1:w.heap.size < w1.heap.size:=by rw [← hw_w1];simp
 have l2:w1.heap.size < w2.heap.size:=by rw [← hw_w2];simp
 have n3:=BN.out.cell 3
 have n4:=BN.out.cell 4
 have n5:=BN.out.cell 5
 simp only [gX] at n3 n4 n5
 clear hs
 go_enter Tryz.func145,Tryz.ntmps145
 go_wp2_with (first|(refine lB 24 (.tmp 2) w.heap.size BS.out Tryz.underlying24 ?_)|(go_at_call 77;refine (SD.out _).mono ?_;rintro e w4 ⟨rfl,hb⟩;replace FR:=zH (FR.out.fut hb);replace BS:=zH (BS.out.fut hb);replace BN:=zH (BN.out.fut hb);replace BR:=zH (BR.out.fut hb);have l4:=hb.size;clear hb n3 n4 n5 hw_w1 hw_w2 hw_w3;obtain ⟨w5,hw_w5⟩:∃ x,w4.alloc (.cells (sN Ho Wo 1) 24)=x:=⟨_,rfl⟩;have hb:Below w4.heap.size w4 w5:=(by rw [← hw_w5];exact (Below.refl _ _).alloc (Nat.le_refl _) _);have BM:=zH (show Blk w5 w4.heap.size 24 (sN Ho Wo 1) by rw [← hw_w5];exact Blk.now _ _ _ _ rfl);replace FR:=zH (FR.out.fut hb);replace BS:=zH (BS.out.fut hb);replace BN:=zH (BN.out.fut hb);replace BR:=zH (BR.out.fut hb);clear hb)|(refine lB 44 (.tmp 3) w1.heap.size BN.out Tryz.underlying44 ?_)|(refine lB 24 (.tmp 6) w4.heap.size BM.out Tryz.underlying24 ?_)|(refine sB 187 (.tmp 4) (.tmp 22) w2.heap.size #[.int .i64 H,.int .i64 V,.int .i64 C,.int .i64 d.kind,.int .i64 d.a,.int .i64 d.b,.int .i64 d.k,.int .i64 d.s,.int .i64 d.p,.int .i64 d.out,.int .i8 d.za,.int .i8 d.zb,.slice W nw cw,.slice B nb cb,.int .i32 d.qm,.int .i64 d.qs,.int .i8 d.qz,.int .i32 d.rm,.int .i64 d.rs,.int .i8 d.rz,.int .i8 d.lo,.int .i8 d.hi,.int .i64 Ho,.int .i64 Wo,.int .i64 1] BR.out ?_;intro w9 B9 g9))
 refine ret_cell_tmp rfl B9 rfl Tryz.underlying187 (by show _=some 25;kernel_rfl) rfl ?_
 exact ⟨rfl,(FR.out.away g9 (by omega)).out⟩
end Go.Proofs.YtjkmjpjknmghlaaGreat
namespace Go.Proofs.YtjkmjpjknmghlaaGreat
theorem patch_conv (H V C:Nat) (l w:List Int) (za:Int) (K S P Wo i o:Nat) (hw:0 < K*K*C) :
  (sumN (K*K*C) fun k=>patchF H V C l za K S P Wo (i*(K*K*C)+k)*w.getD (o*(K*K*C)+k) 0)=convN H V C l za w K S P o (i / Wo) (i % Wo):=by
 unfold convN
 refine sumN_congr fun k hk=>?_
 have dv:(i*(K*K*C)+k) / (K*K*C)=i:=by rw [Nat.mul_comm,Nat.mul_add_div hw,Nat.div_eq_of_lt hk,Nat.add_zero]
 have md:(i*(K*K*C)+k) % (K*K*C)=k:=by rw [Nat.mul_comm,Nat.mul_add_mod,Nat.mod_eq_of_lt hk]
 unfold patchF
 rw [dv,md,Int.mul_comm]
end Go.Proofs.YtjkmjpjknmghlaaGreat
namespace Go.Proofs.YtjkmjpjknmghlaaGreat
open Go.RowKit Go.ChangeShapes Go.WideShapes Fx
set_option maxRecDepth 100000
set_option maxHeartbeats 4000000
theorem hiN_one (l:List Int):hiN l 1=l.getD 0 0:=by
 show (if hiN l 0 < l.getD 0 0 then l.getD 0 0 else hiN l 0)=_
 split
 ·rfl
 ·rfl
theorem max8_any (A:Option Addr) (n cap:Nat) (l:List Int) (w:World) (hl:Sl (tInt .i8) w (blo w.heap.size) A n cap l) (hn:n≤1024) (h1:1≤n) :
  Calls Tryz.prog 111 #[.slice A n cap] w fun e w'=>e=.returned (.int .i8 (hiN l n))∧w=w':=by
 have H:=zH hl
 clear hl
 obtain ⟨b,o,rfl,-,-,c0,i0⟩:=H.out.int_at 0 (by omega)
 rw [Nat.add_zero] at c0
 have t1:¬ (n:Int) < 1:=by omega
 have H0:=zH (hiN_one l)
 obtain ⟨x0,hx0⟩:∃ x,l.getD 0 0=x:=⟨_,rfl⟩
 rw [hx0] at c0 i0 H0
 clear hx0
 go_enter Tryz.func111,Tryz.ntmps111
 go_wp2_with fail
 clear c0
 go_loopw [3,4] (fun v ii wr=>∃ k:Nat,k≤n∧1≤k∧ii=.int .i64 k∧v=.int .i8 (hiN l k)∧w=wr) (fun _ ii _=>n - (intOf ii).toNat)
 case atStart=>exact ⟨1,h1,Nat.le_refl _,rfl,by rw [H0.out],rfl⟩
 case round =>
  obtain ⟨k,hk,hk1,rfl,rfl,rfl⟩:=hrel
  by_cases hlt:k < n
  ·have p1:(k:Int) < (n:Int):=by omega
   obtain ⟨b',o',e',-,-,cx,ix⟩:=H.out.int_at k hlt
   simp only [Option.some.injEq,Addr.mk.injEq,and_true] at e'
   obtain ⟨rfl,rfl⟩:=e'
   have HS:=zH (show hiN l (k+1)=if hiN l k < l.getD k 0 then l.getD k 0 else hiN l k from rfl)
   obtain ⟨x,hx⟩:∃ x,l.getD k 0=x:=⟨_,rfl⟩
   rw [hx] at cx ix HS
   clear hx
   go_wp2_with fail
   exact ⟨⟨k+1,by omega,by omega,by go_num,by rw [HS.out],by trivial⟩,by simp [intOf];omega⟩
  ·obtain rfl:k=n:=by omega
   go_wp2_with fail
   go_ret
   exact ⟨rfl,by trivial⟩
theorem greatest_any (A:Option Addr) (n cap:Nat) (l:List Int) (w:World) (hl:Sl (tInt .i8) w (blo w.heap.size) A n cap l) (hn:n≤1024) (h1:1≤n) :
  Calls Tryz.prog 80 #[.slice A n cap] w fun e w'=>e=.returned (.int .i8 (hiN l n))∧w=w':=by
 go_enter Tryz.func80,Tryz.ntmps80
 go_wp2_with (go_at_call 111;refine (max8_any A n cap l _ hl hn h1).mono ?_;rintro e w2 ⟨rfl,rfl⟩)
 go_ret
 exact ⟨rfl,rfl⟩
end Go.Proofs.YtjkmjpjknmghlaaGreat
namespace Go.Proofs.YtjkmjpjknmghlaaGreat
open Go.RowKit Go.ChangeShapes Go.WideShapes
set_option maxRecDepth 100000
theorem Own.lit0 {W:World} {k:IntKind} {E:TypeId} {base:Nat} (hb:base≤W.heap.size):Own (tInt k) (W.alloc (.cells #[] E)) (fun _=>False) base E (.slice (some ⟨W.heap.size,0,none⟩) 0 0) 0 [] :=
 ⟨[],⟨rfl,.inr ⟨_,0,#[],rfl,hb,heap_alloc_new _ _,Nat.le_refl _,by decide,rfl,rfl⟩⟩,rfl⟩
theorem ei_i8':EI Tryz.prog 25 39 (.int .i8 0) 1 1:=⟨Tryz.underlying25,by kernel_rfl,rfl,by decide⟩
theorem clone8_any (A:Option Addr) (n c:Nat) (l:List Int) (w:World) (h:Sl (tInt .i8) w (blo w.heap.size) A n c l) (hn:n≤140737488351232) :
  Calls Tryz.prog 26 #[.slice A n c] w (RetSl (tInt .i8) w l):=by
 cases A with
 | none =>
  have hc:=h.nil_ rfl
  have hm:=h.cap_le
  obtain rfl:c=0:=hc
  obtain rfl:n=0:=by omega
  obtain rfl:l=[]:=List.length_eq_zero_iff.1 h.n_eq
  clear h
  have q0:=fun w=>Lib.run_eql_slice_nil (P:=Tryz.prog) w 25 39 none 0 0 0 0 Tryz.underlying25
  simp only [Option.isNone_none] at q0
  go_enter Tryz.func26,Tryz.ntmps26
  go_wp2_with fail
  go_ret
  exact ⟨none,0,0,rfl,Sl.nil _ _ _,Below.refl _ _⟩
 | some ad =>
  have H:=zH h
  clear h
  have q0:=fun w=>Lib.run_eql_slice_nil (P:=Tryz.prog) w 25 39 (some ad) n c 0 0 Tryz.underlying25
  simp only [Option.isNone_some] at q0
  go_enter Tryz.func26,Tryz.ntmps26
  have o0:=Own.lit0 (W:=w) (k:=.i8) (E:=39) (base:=w.heap.size) (Nat.le_refl _)
  have k0:Below w.heap.size w (w.alloc (.cells #[] 39)):=(Below.refl _ _).alloc (Nat.le_refl _) _
  have s0:=H.out.later k0 (Nat.le_refl _)
  go_wp2_with (at_builtin;refine wpList_extend rfl _ _ rfl ei_i8' rfl o0 rfl s0 (by unfold maxLen;omega) (by omega) k0.size ?_;intro v' w' o' g' a')
  go_ret
  refine o'.ret (by decide) (k0.grown g' k0.size (fun k h=>(o0.lt k h).1)) (fun b h=>h.elim)
end Go.Proofs.YtjkmjpjknmghlaaGreat
namespace Go.Proofs.YtjkmjpjknmghlaaGreat
open Go
section
variable {P:Program} {ops:Array Oper} {Q:Exit → Act → World → Prop} {o:Oper} {a:Act} {k:IntKind} {w:World} {base q N:Nat} {E:TypeId} {L:List Int}
theorem own_copied (own:Own (tInt k) w (fun _=>False) base E (.slice (some ⟨q,0,none⟩) N N) N L) (off:Nat) (xs:List Int) (hx:∀ x ∈ xs,InK k x) (hfit:off+xs.length≤N) :
  ∃ cur:Array Value,w.heap[q]?=some (.cells cur E (0,0))∧cur.size=N∧∀ w',w'=w.setRow q (cur.toList.take off ++ (xs.map (Value.int k) ++ cur.toList.drop (off+xs.length))).toArray →
   Own (tInt k) w' (fun _=>False) base E (.slice (some ⟨q,0,none⟩) N N) N (splice L off xs)∧w.grownBy w' (some q):=by
 obtain ⟨vs,⟨h1,h2⟩,h3⟩:=own.out
 obtain ⟨e1,e2⟩:=h3.ints_iff
 rcases h2 with ⟨e,-⟩|⟨g,cap,cur,e,hb,hg,hc,hm,hs,ht⟩
 ·cases e
 ·injection e with e e' e''
  injection e with e
  injection e with e
  subst e e''
  have sz:(tInt k).size=1:=rfl
  rw [sz,Nat.mul_one] at hs ht h1
  have hcl:cur.toList=L.map (Value.int k):=by
   rw [← e1,← ht,List.take_of_length_le (by rw [Array.length_toList];omega)]
  refine ⟨cur,hg,hs,?_⟩
  rintro w' rfl
  have hl:(splice L off xs).length=N:=by
   have:L.length=N:=by rw [← h1,e1,List.length_map]
   rw [length_splice _ _ _ (by omega),this]
  have hrow:(cur.toList.take off ++ (xs.map (Value.int k) ++ cur.toList.drop (off+xs.length)))=(splice L off xs).map (Value.int k):=by
   rw [hcl];simp [splice]
  rw [hrow]
  refine ⟨⟨(splice L off xs).map (Value.int k),⟨by rw [List.length_map,hl,sz,Nat.mul_one],.inr ⟨q,N,((splice L off xs).map (Value.int k)).toArray,rfl,hb,setRow_heap w q _ _ E _ hg,Nat.le_refl _,hm,by simp [hl,sz],by rw [sz,Nat.mul_one,List.take_of_length_le (by simp [hl])]⟩⟩,RowsOf.ints ?_⟩,⟨rfl,rfl,rfl,by simp [World.setRow],fun j _ hj=>setRow_other w q j _ (fun e=>hj (by rw [e]))⟩⟩
  intro x hxm
  unfold splice at hxm
  rcases List.mem_append.1 hxm with h|h
  ·exact e2 x (List.mem_of_mem_take h)
  ·rcases List.mem_append.1 h with h|h
   ·exact hx x h
   ·exact e2 x (List.mem_of_mem_drop h)
theorem oper_copyO {K:Act → World → Prop} (d s:Operand) (dT sT:TypeId) (ho:o.op=.call { callee:=.builtin .copy,args:=#[d,s],argTypes:=#[dT,sT] }) (elem:TypeId) (hu:P.underlying dT=some (.slice elem)) (hsz:(P.info? elem).map (·.size)=some 1)
  (own:Own (tInt k) w (fun _=>False) base E (.slice (some ⟨q,0,none⟩) N N) N L) (off dLen dCap:Nat) (hd:a.eval d=.slice (some ⟨q,off,none⟩) dLen dCap) (ad:Addr) (sLen sCap:Nat) (hs:a.eval s=.slice (some ad) sLen sCap)
  (xs:List Int) (hx:∀ x ∈ xs,InK k x) (hn:xs.length=Nat.min sLen dLen) (hsrc:∀ j,j < xs.length → w.cell? (ad.add j)=some (.int k (xs.getD j 0))) (hfit:off+xs.length≤N)
  (h:∀ w',Own (tInt k) w' (fun _=>False) base E (.slice (some ⟨q,0,none⟩) N N) N (splice L off xs) → w.grownBy w' (some q) → K (a.put o.dst (goInt xs.length)) w'):Oper.wp P o a w K Q:=by
 obtain ⟨cur,hg,hc,hw⟩:=own_copied own off xs hx hfit
 have hrun:=run_copy_row (P:=P) w dT sT o.type elem q off dLen dCap ad sLen sCap cur E (xs.map (Value.int k)) hu hsz hg (by simpa using hn) (fun j v hv=>by
  rw [List.getElem?_map] at hv
  have hj:j < xs.length:=by
   cases e:xs[j]? with
   | none=>rw [e] at hv;cases hv
   | some y=>exact (List.getElem?_eq_some_iff.1 e).1
  rw [hsrc j hj,← hv,List.getD_eq_getElem?_getD,List.getElem?_eq_getElem hj];rfl) (by simpa [hc] using hfit) (by intro v hv;obtain ⟨y,-,rfl⟩:=List.mem_map.1 hv;rfl)
 obtain ⟨h1,h2⟩:=hw _ rfl
 have:=h _ h1 h2
 unfold Oper.wp
 simp only [List.length_map] at hrun
 simp [execOp,ho,resolve,invoke,builtin,hd,hs,hrun,Result.andThen]
 exact this
theorem wpList_copyO {rest:List Oper} (hgd:o.guard=none) (d s:Operand) (dT sT:TypeId) (ho:o.op=.call { callee:=.builtin .copy,args:=#[d,s],argTypes:=#[dT,sT] }) (elem:TypeId) (hu:P.underlying dT=some (.slice elem)) (hsz:(P.info? elem).map (·.size)=some 1)
  (own:Own (tInt k) w (fun _=>False) base E (.slice (some ⟨q,0,none⟩) N N) N L) (off dLen dCap:Nat) (hd:a.eval d=.slice (some ⟨q,off,none⟩) dLen dCap) (ad:Addr) (sLen sCap:Nat) (hs:a.eval s=.slice (some ad) sLen sCap)
  (xs:List Int) (hx:∀ x ∈ xs,InK k x) (hn:xs.length=Nat.min sLen dLen) (hsrc:∀ j,j < xs.length → w.cell? (ad.add j)=some (.int k (xs.getD j 0))) (hfit:off+xs.length≤N)
  (h:∀ w',Own (tInt k) w' (fun _=>False) base E (.slice (some ⟨q,0,none⟩) N N) N (splice L off xs) → w.grownBy w' (some q) → wpList P ops Q rest (a.put o.dst (goInt xs.length)) w'):wpList P ops Q (o :: rest) a w :=
 wpList_plain hgd fun K hK=>oper_copyO d s dT sT ho elem hu hsz own off dLen dCap hd ad sLen sCap hs xs hx hn hsrc hfit fun w' h1 h2=>hK _ _ (h w' h1 h2)
end
end Go.Proofs.YtjkmjpjknmghlaaGreat
namespace Go.Proofs.YtjkmjpjknmghlaaGreat
open Go.RowKit Go.ChangeShapes Go.WideShapes Fx
set_option maxRecDepth 100000
set_option maxHeartbeats 4000000
theorem bitsMul_any (N:Nat) (w:World) (hN:N≤1024) :
  Calls Tryz.prog 154 #[.int .u64 1,.int .u64 N] w fun e w'=>e=.returned (.tuple #[.int .u64 0,.int .u64 N])∧w=w':=by
 have B:=zH (fun w=>Tryz.bits_Mul64 1 N (by decide) (by omega) w)
 rw [show 1*N / 18446744073709551616=0 by omega,show 1*N % 18446744073709551616=N by omega] at B
 go_enter Tryz.func154,Tryz.ntmps154
 go_wp2_with (go_at_call 101;refine (B.out _).mono ?_;rintro e w2 ⟨rfl,rfl⟩)
 go_ret2
 exact ⟨rfl,rfl⟩
theorem rep_splice (N k m:Nat) (v:Int) (h:k+m≤N):splice (List.replicate k v ++ List.replicate (N - k) 0) k (List.replicate m v)=List.replicate (k+m) v ++ List.replicate (N - (k+m)) 0:=by
 unfold splice
 rw [List.take_append_of_le_length (by simp),List.take_of_length_le (by simp),List.length_replicate,List.drop_append]
 simp only [List.drop_replicate,List.length_replicate]
 rw [show k - (k+m)=0 by omega,List.replicate_zero,List.nil_append,← List.append_assoc,List.replicate_append_replicate,show N - k - (k+m - k)=N - (k+m) by omega]
theorem repeat_any (v:Int) (N g:Nat) (w:World) (hN:1≤N∧N≤1024) (hv:InK .i8 v) (hc:w.cell? ⟨g,0,none⟩=some (.int .i8 v)) (hg:g < w.heap.size) :
  Calls Tryz.prog 141 #[.slice (some ⟨g,0,none⟩) 1 1,.int .i64 N] w fun e w'=>∃ q,e=.returned (.slice (some ⟨q,0,none⟩) N N)∧Own (tInt .i8) w' (fun _=>False) w.heap.size 39 (.slice (some ⟨q,0,none⟩) N N) N (List.replicate N v)∧Below w.heap.size w w':=by
 have MU:=zH (fun w=>bitsMul_any N w hN.2)
 have HV:=zH hv
 have HC:=zH hc
 have FR:=zH (Far.refl w)
 have c1:IntKind.u64.wrap (N:Int)=(N:Int):=by rw [IntKind.wrap_u64];omega
 have c2:IntKind.i64.wrap (N:Int)=(N:Int):=IntWalk.i64_in _ (by omega)
 have n1:¬ (9223372036854775807:Int) < (N:Int):=by omega
 have n2:¬ (N:Int) < 0:=by omega
 obtain ⟨hN1,hN2⟩:=hN
 clear hv hc
 have f0:=zH (show ∀ x ∈ [v],InK .i8 x by intro x hx;rw [List.mem_singleton] at hx;subst hx;exact HV.out)
 have f1:=zH (show [v].length=Nat.min 1 N by show 1=min 1 N;omega)
 have f2:=zH (show ∀ w3:World,Below w.heap.size w w3 → ∀ j,j < [v].length → w3.cell? ((⟨g,0,none⟩:Addr).add j)=some (.int .i8 ([v].getD j 0)) by
  intro w3 kb j hj
  obtain rfl:j=0:=by have:j < 1:=hj;omega
  exact (kb.cell (p:=⟨g,0,none⟩) hg).trans HC.out)
 have f3:=zH (show 0+[v].length≤N by show 1≤N;omega)
 go_enter Tryz.func141,Tryz.ntmps141
 go_wp2_with (first|(go_at_call 154;refine (MU.out _).mono ?_;rintro e w2 ⟨rfl,rfl⟩)|(at_make;refine wpList_make (t:=tInt .i8) (S:=fun _=>False) (base:=w.heap.size) rfl _ _ rfl ei_b8 .i64 .i64 _ _ N rfl rfl rfl rfl ?_ ?_ ?_ 0 ⟨rfl,by decide⟩ (fun _ h=>h.elim) ?_;rotate_right;intro w3 hown hgr;have kb:Below w.heap.size w w3:=(Below.refl _ _).grown hgr (Nat.le_refl _) (by simp);have ON:=zH hown;replace FR:=zH (FR.out.fut kb);have lq:=hown.lt _ rfl;have g3:=zH (f2.out w3 kb);clear hown hgr kb)|(refine wpList_copyO (k:=.i8) rfl (.tmp 31) (.tmp 32) 25 25 rfl 39 Tryz.underlying25 (by kernel_rfl) ON.out 0 N N rfl ⟨g,0,none⟩ 1 1 rfl [v] f0.out f1.out g3.out f3.out ?_;intro w4 own4 g4))
 rotate_left
 ·omega
 ·unfold maxLen;omega
 ·omega
 have O4:=zH (show Own (tInt .i8) w4 (fun _=>False) w.heap.size 39 (.slice (some ⟨w.heap.size,0,none⟩) N N) N (List.replicate 1 v ++ List.replicate (N - 1) 0) by
  have:=rep_splice N 0 1 v (by omega)
  simp only [List.replicate_zero,List.nil_append,Nat.sub_zero,Nat.zero_add] at this
  rw [← this];exact own4)
 replace FR:=zH (FR.out.away g4 (Nat.le_refl _))
 have ON:=O4
 clear own4 g4 g3 f0 f1 f2 f3 O4 MU HC c1 n1 n2
 go_loopw [8] (fun ii wr=>∃ k:Nat,1≤k∧k≤N∧ii=.int .i64 k∧Far w wr∧Own (tInt .i8) wr (fun _=>False) w.heap.size 39 (.slice (some ⟨w.heap.size,0,none⟩) N N) N (List.replicate k v ++ List.replicate (N - k) 0)) (fun ii _=>N - (intOf ii).toNat)
 case atStart=>exact ⟨1,Nat.le_refl _,hN1,rfl,FR.out,ON.out⟩
 case round =>
  obtain ⟨k,hk1,hk2,rfl,f0,f1⟩:=hrel
  clear FR ON
  have FR:=zH f0
  have ON:=zH f1
  clear f0 f1
  by_cases hlt:k < N
  ·have p1:(k:Int) < (N:Int):=by omega
   obtain ⟨m,hm⟩:∃ m,Nat.min k (N - k)=m:=⟨_,rfl⟩
   have hm1:1≤m∧k+m≤N:=by rw [← hm];show 1≤min k (N - k)∧k+min k (N - k)≤N;omega
   have HM:=zH hm
   have ne:¬ N=k:=by omega
   have k0:0≤(k:Int):=by omega
   have k2:(k:Int)≤(N:Int):=by omega
   have e1:IntKind.i64.wrap ((k:Int)+(m:Int))=((k+m:Nat):Int):=(IntWalk.i64_in _ (by omega)).trans (by omega)
   clear hm
   have fd:Below w.heap.size w wr.drew:=FR.out.out.drew
   have O2:=zH (ON.out.heap (w':=wr.drew) rfl)
   have f0:=zH (show ∀ x ∈ List.replicate m v,InK .i8 x by intro x hx;rw [List.eq_of_mem_replicate hx];exact HV.out)
   have f1:=zH (show (List.replicate m v).length=Nat.min k (N - k) by rw [List.length_replicate];exact HM.out.symm)
   have f2:=zH (show ∀ j,j < (List.replicate m v).length → wr.drew.cell? ((⟨w.heap.size,0,none⟩:Addr).add j)=some (.int .i8 ((List.replicate m v).getD j 0)) by
    intro j hj
    rw [List.length_replicate] at hj
    have hmk:m≤k:=by rw [← HM.out];exact Nat.min_le_left _ _
    obtain ⟨x,u,hx,hu,hc,-⟩:=O2.out.cell rfl j (by omega)
    rw [List.getElem?_append_left (by rw [List.length_replicate];omega),List.getElem?_replicate,if_pos (by omega)] at hx
    injection hx with hx
    have hu1:=hu.1
    simp only [List.cons.injEq,and_true] at hu1
    have ha:(⟨w.heap.size,0,none⟩:Addr).add j=⟨w.heap.size,j,none⟩:=by unfold Addr.add;split <;> simp_all
    rw [ha,hc,hu1,List.getD_eq_getElem?_getD,List.getElem?_replicate,if_pos hj,hx]
    rfl)
   have f3:=zH (show k+(List.replicate m v).length≤N by rw [List.length_replicate];exact hm1.2)
   go_wp2_with fail
   refine wp_region_T (fun w'=>Below w.heap.size w w') 9 (by kernel_rfl) ?_ (fun hS=>?_)
   ·exact fd
   refine kT 0 rfl hS ?_
   try simp only [pX]
   refine kT 1 rfl hS ?_
   try simp only [pX]
   refine kT 2 rfl hS ?_
   try simp only [pX]
   refine kT 3 rfl hS ?_
   try simp only [pX]
   refine kT 4 rfl hS ?_
   try simp only [pX]
   refine kT 5 rfl hS ?_
   try simp only [pX]
   refine kT 6 rfl hS ?_
   try simp only [pX]
   refine wpAnyT_one (i:=7) (by kernel_rfl) rfl rfl (fun K hK=>?_)
   (rw [if_pos (by rfl)];refine oper_copyO (k:=.i8) (.tmp 41) (.tmp 44) 25 25 rfl 39 Tryz.underlying25 (by kernel_rfl) O2.out k (N - k) (N - k) rfl ⟨w.heap.size,0,none⟩ k N rfl (List.replicate m v) f0.out f1.out f2.out f3.out ?_;intro w4 own4 g4;have O4:=zH own4;clear own4;refine hK.out _ _ (fd.grown g4 fd.size (fun k e=>by injection e with e;omega)) (fun hS=>?_))
   clear hK K
   try simp only [pX]
   refine kT 8 rfl hS ?_
   try simp only [pX]
   refine wpAnyT_tail _ _ rfl rfl (by kernel_rfl) ?_
   have FZ:=zH (show Far w w4 from ⟨hS⟩)
   clear hS f0 f1 f2 f3 O2 g4 fd
   go_wp2_with fail
   have o5:=O4.out
   rw [rep_splice N k m v hm1.2] at o5
   exact ⟨⟨k+m,by omega,by omega,by go_num,FZ.out,o5⟩,by simp [intOf];omega⟩
  ·obtain rfl:k=N:=by omega
   go_wp2_with fail
   go_ret
   refine ⟨_,rfl,?_,FR.out.out⟩
   have:=ON.out
   rw [Nat.sub_self,List.replicate_zero,List.append_nil] at this
   exact this
end Go.Proofs.YtjkmjpjknmghlaaGreat
namespace Go.Proofs.YtjkmjpjknmghlaaGreat
open Go.RowKit Go.ChangeShapes Go.WideShapes
set_option maxRecDepth 100000
theorem ei_i32':EI Tryz.prog 40 21 (.int .i32 0) 1 4:=⟨Tryz.underlying40,by kernel_rfl,rfl,by decide⟩
theorem clone32_any (A:Option Addr) (n c:Nat) (l:List Int) (w:World) (h:Sl (tInt .i32) w (blo w.heap.size) A n c l) (hn:n≤35184372087808) :
  Calls Tryz.prog 105 #[.slice A n c] w (RetSl (tInt .i32) w l):=by
 cases A with
 | none =>
  have hc:=h.nil_ rfl
  have hm:=h.cap_le
  obtain rfl:c=0:=hc
  obtain rfl:n=0:=by omega
  obtain rfl:l=[]:=List.length_eq_zero_iff.1 h.n_eq
  clear h
  have q0:=fun w=>Lib.run_eql_slice_nil (P:=Tryz.prog) w 40 21 none 0 0 0 0 Tryz.underlying40
  simp only [Option.isNone_none] at q0
  go_enter Tryz.func105,Tryz.ntmps105
  go_wp2_with fail
  go_ret
  exact ⟨none,0,0,rfl,Sl.nil _ _ _,Below.refl _ _⟩
 | some ad =>
  have H:=zH h
  clear h
  have q0:=fun w=>Lib.run_eql_slice_nil (P:=Tryz.prog) w 40 21 (some ad) n c 0 0 Tryz.underlying40
  simp only [Option.isNone_some] at q0
  go_enter Tryz.func105,Tryz.ntmps105
  have o0:=Own.lit0 (W:=w) (k:=.i32) (E:=21) (base:=w.heap.size) (Nat.le_refl _)
  have k0:Below w.heap.size w (w.alloc (.cells #[] 21)):=(Below.refl _ _).alloc (Nat.le_refl _) _
  have s0:=H.out.later k0 (Nat.le_refl _)
  go_wp2_with (at_builtin;refine wpList_extend rfl _ _ rfl ei_i32' rfl o0 rfl s0 (by unfold maxLen;omega) (by omega) k0.size ?_;intro v' w' o' g' a')
  go_ret
  refine o'.ret (by decide) (k0.grown g' k0.size (fun k h=>(o0.lt k h).1)) (fun b h=>h.elim)
end Go.Proofs.YtjkmjpjknmghlaaGreat
namespace Go.Proofs.YtjkmjpjknmghlaaGreat
theorem list_eq_getD {l l':List Int} {n:Nat} (h1:l.length=n) (h2:l'.length=n) (h:∀ j,j < n → l.getD j 0=l'.getD j 0):l=l':=by
 apply List.ext_getElem (by omega)
 intro j ha hb
 have:=h j (by omega)
 rw [List.getD_eq_getElem?_getD,List.getD_eq_getElem?_getD,List.getElem?_eq_getElem ha,List.getElem?_eq_getElem hb] at this
 exact this
end Go.Proofs.YtjkmjpjknmghlaaGreat
namespace Go.Proofs.YtjkmjpjknmghlaaGreat
open Go.RowKit Go.ChangeShapes Go.WideShapes
set_option maxRecDepth 100000
theorem equal32_any (A A':Option Addr) (n cap n' cap':Nat) (l l':List Int) (w:World) (h:Sl (tInt .i32) w (blo w.heap.size) A n cap l) (h':Sl (tInt .i32) w (blo w.heap.size) A' n' cap' l') :
  Calls Tryz.prog 104 #[.slice A n cap,.slice A' n' cap'] w fun e w'=>e=.returned (.bool (decide (l=l')))∧Below w.heap.size w w':=by
 have hm:n≤9223372036854775807:=Nat.le_trans h.cap_le h.max_le
 have hm':n'≤9223372036854775807:=Nat.le_trans h'.cap_le h'.max_le
 have H:=zH h
 have H':=zH h'
 clear h h'
 by_cases hn:n=n'
 rotate_left
 ·have d1:((n:Int) != (n':Int))=true:=by rw [bne_iff_ne];omega
  have d2:decide (l=l')=false:=by rw [decide_eq_false_iff_not];rintro rfl;exact hn (H.out.n_eq.symm.trans H'.out.n_eq)
  rw [d2]
  clear hn
  go_enter Tryz.func104,Tryz.ntmps104
  go_wp2_with fail
  go_ret
  exact ⟨rfl,Below.refl _ _⟩
 subst hn
 have d1:((n:Int) != (n:Int))=false:=by simp
 go_enter Tryz.func104,Tryz.ntmps104
 go_wp2_with fail
 go_loopw [13] (fun i wr=>∃ k:Nat,k≤n∧i=.int .i64 k∧wr.heap=w.heap∧Below w.heap.size w wr∧∀ j,j < k → l.getD j 0=l'.getD j 0) (fun i _=>n - (intOf i).toNat)
 case atStart=>exact ⟨0,Nat.zero_le _,rfl,rfl,Below.refl _ _,fun j hj=>absurd hj (Nat.not_lt_zero _)⟩
 case round =>
  obtain ⟨k,hk,rfl,hh,hb,hq⟩:=hrel
  have HQ:=zH hq
  clear hq
  by_cases hlt:k < n
  ·obtain ⟨b,off,rfl,_,_,c0,i0⟩:=(H.out.below hb (fun _ h=>h)).int_at k hlt
   obtain ⟨b',off',rfl,_,_,c1,i1⟩:=(H'.out.below hb (fun _ h=>h)).int_at k hlt
   have HH:=zH hh
   clear hh i0 i1
   by_cases he:l.getD k 0=l'.getD k 0
   ·rw [← he] at c1
    generalize hx:l.getD k 0=x at *
    have d3:(x != x)=false:=by simp
    have HX:=zH hx
    have HE:=zH he
    clear hx he
    go_wp2_with fail
    go_quiet (fail)
    go_wp2_with fail
    refine ⟨⟨k+1,by omega,by go_num,HH.out,below_drewN hb _,fun j hj=>?_⟩,by simp [intOf];omega⟩
    by_cases hjk:j < k
    ·exact HQ.out j hjk
    ·obtain rfl:j=k:=by omega
     rw [HX.out,HE.out]
   ·have d2:decide (l=l')=false:=by rw [decide_eq_false_iff_not];rintro rfl;exact he rfl
    have d3:(l.getD k 0 != l'.getD k 0)=true:=by rw [bne_iff_ne];exact he
    generalize l.getD k 0=x at *
    generalize l'.getD k 0=y at *
    have D2:=zH d2
    clear d2 he
    go_wp2_with fail
    go_quiet (fail)
    go_wp2_with fail
    go_ret
    exact ⟨by rw [D2.out];rfl,below_drewN hb _⟩
  ·obtain rfl:k=n:=by omega
   go_wp2_with fail
   go_ret
   exact ⟨by rw [decide_eq_true (list_eq_getD H.out.n_eq H'.out.n_eq HQ.out)];rfl,hb⟩
end Go.Proofs.YtjkmjpjknmghlaaGreat
