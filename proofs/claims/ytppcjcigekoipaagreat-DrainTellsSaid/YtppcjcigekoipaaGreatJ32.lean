/-
  Between which numbers all values of a block lie (layer 32): guard.Flow.
  Whether an exit's sums stay within 32 bits (layer 32): guard.Head, the document's Head.
  Bundles as data (layers 33, 36), and what is wrong with one, as plain functions.
  Rows cloned (layer 35): models, blocks, nodes; an exit copied.
  What an exit is wrong in (layer 33): valid.bare, valid.exit.
  What a block is wrong in (layer 33): valid.Block.
  What nodes and blocks cost (layer 31), as plain functions.
  Verdicts, exits and answers as Lean data; slices of numbers compared; arguments of these types opened.
-/
import Derived.Test.YtppcjcigekoipaaGreatJ30
import Derived.Test.YtppcjcigekoipaaGreatJ31
set_option linter.unusedVariables false
set_option linter.unusedSimpArgs false
namespace Go.Proofs.YtppcjcigekoipaaGreat
open Go.RowKit Go.ChangeShapes Go.WideShapes
set_option maxRecDepth 100000
set_option maxHeartbeats 16000000
inductive RunG (α:Type) where
 | on (out:List α)
 | bad (i:Nat) (e:Int)
def runG {α:Type} (f:Node → List α → α × Int) (l:List Node) (a:α):Nat → RunG α
 | 0=>.on [a]
 | k+1=>match runG f l a k with
  | .on out=>if (f (l.getD k noNode) out).2 ≠ 0 then .bad k (f (l.getD k noNode) out).2 else .on (out ++ [(f (l.getD k noNode) out).1])
  | .bad i e=>.bad i e
def endG {α:Type} (n:Nat):RunG α → List α × Int × Int
 | .on out=>(out,(n:Int),0)
 | .bad i e=>([],(i:Int),e)
theorem runG_bad {α : Type} {f : Node → List α → α × Int} {l : List Node} {a : α} {k i : Nat} {e : Int} (h : runG f l a k = .bad i e) : ∀ m, k ≤ m → runG f l a m = .bad i e := by
  intro m hm
  induction m with
  | zero => obtain rfl : k = 0 := by omega
            exact h
  | succ m ih =>
    by_cases hk : k = m + 1
    · subst hk; exact h
    · have := ih (by omega)
      show (match runG f l a m with | .on out => _ | .bad i e => _) = _
      rw [this]
theorem runG_next {α:Type} {f:Node → List α → α × Int} {l:List Node} {a:α} {k:Nat} {out:List α} {d:Node} (h:runG f l a k=.on out) (hd:l[k]?=some d) :
  runG f l a (k+1)=if (f d out).2 ≠ 0 then .bad k (f d out).2 else .on (out ++ [(f d out).1]):=by
 have e:l.getD k noNode=d:=by rw [List.getD_eq_getElem?_getD,hd];rfl
 show (match runG f l a k with|.on out=>_|.bad i e=>_)=_
 rw [h]
 simp only [e]
theorem stepR_in {d:Node} {out:List (Int × Int)} (h:∀ p ∈ out,InK .i8 p.1∧InK .i8 p.2) (hd:NodeIn d):InK .i8 (stepR d out).1.1∧InK .i8 (stepR d out).1.2:=by
 have hg:∀ i,InK .i8 (out.getD i (0,0)).1∧InK .i8 (out.getD i (0,0)).2:=fun i=>by
  rw [List.getD_eq_getElem?_getD]
  cases q:out[i]? with
  | none=>exact ⟨by decide,by decide⟩
  | some p=>exact h p (List.mem_of_getElem? q)
 unfold stepR
 split
 ·exact ⟨by decide,by decide⟩
 ·exact nodeR_in (hg _) (hg _) hd
def flowR (l:List Node) (a:Int × Int):List (Int × Int) × Int × Int :=
 if l.length=0 then ([],-1,12) else if 8 < l.length then ([],-1,4) else if a.2 < a.1 then ([],-1,2) else endG l.length (runG stepR l a l.length)
theorem ei_reach:EI Tryz.prog 193 196 (.agg #[.int .i8 0,.int .i8 0]) 2 2:=⟨Tryz.underlying193,by kernel_rfl,rfl,by decide⟩
def RetFlow (x:List (Int × Int) × Int × Int) (w:World) (e:Ending) (w':World):Prop :=
 ∃ A m cap,e=.returned (.tuple #[.slice A m cap,.int .i64 x.2.1,.int .i64 x.2.2])∧Sl (tRg .i8) w' (bin w.heap.size w'.heap.size) A m cap x.1∧Below w.heap.size w w'
theorem RetFlow.none {i e:Int} {w w':World} (hb:Below w.heap.size w w'):RetFlow ([],i,e) w (.returned (.tuple #[.slice none 0 0,.int .i64 i,.int .i64 e])) w' :=
 ⟨Option.none,0,0,rfl,Sl.nil _ _ _,hb⟩
theorem flow_any (A:Option Addr) (n cap:Nat) (l:List Node) (lo hi:Int) (w:World) (hs:Sl tNode w (blo w.heap.size) A n cap l) (hlo:InK .i8 lo) (hhi:InK .i8 hi) (hf:∀ d ∈ l,d.w.length≤1000∧d.bias.length≤100) (h1:∀ d ∈ l,sumsK d.kind=true → 1≤d.w.length) :
  Calls Tryz.prog 102 #[.slice A n cap,.agg #[.int .i8 lo,.int .i8 hi]] w (RetFlow (flowR l (lo,hi)) w):=by
 have hn:=hs.n_eq
 obtain ⟨r,hr⟩:∃ r,flowR l (lo,hi)=r:=⟨_,rfl⟩
 rw [hr]
 unfold flowR at hr
 simp only [hn] at hr
 have UP:=zH (fun w=>upside_any lo hi w)
 have II:=zH (And.intro hlo hhi)
 have VV:=zH hr.symm
 have H:=zH hs
 have HF:=zH hf
 have H1:=zH h1
 have hmax:n≤9223372036854775807:=Nat.le_trans hs.cap_le hs.max_le
 clear hr hs hf h1 hlo hhi hn
 have FR:=zH (Far.refl w)
 obtain ⟨w1,hw_w1,BA,k_w1⟩:=nB w #[.int .i8 lo,.int .i8 hi] 196
 replace FR:=zH (FR.out.fut k_w1)
 clear k_w1
 have l1:w.heap.size < w1.heap.size:=by rw [← hw_w1];simp
 by_cases c1:n=0
 ·have t1:((n:Int) == 0)=true:=by simp;omega
  have R:=zH (show r=([],-1,12) by rw [VV.out,if_pos c1])
  clear c1 VV
  go_enter Tryz.func102,Tryz.ntmps102
  go_wp2_with fail
  go_ret3
  rw [R.out]
  exact RetFlow.none FR.out.out
 have t1:((n:Int) == 0)=false:=by simp;omega
 by_cases c2:8 < n
 ·have t2:decide (8 < (n:Int))=true:=by simp;omega
  have R:=zH (show r=([],-1,4) by rw [VV.out,if_neg c1,if_pos c2])
  clear c1 c2 VV
  go_enter Tryz.func102,Tryz.ntmps102
  go_wp2_with fail
  go_ret3
  rw [R.out]
  exact RetFlow.none FR.out.out
 have t2:decide (8 < (n:Int))=false:=by simp;omega
 have hn8:n≤8:=by omega
 by_cases c3:hi < lo
 ·have t3:decide (hi < lo)=true:=by simpa using c3
  have R:=zH (show r=([],-1,2) by rw [VV.out,if_neg c1,if_neg c2,if_pos c3])
  clear c1 c2 c3 VV
  go_enter Tryz.func102,Tryz.ntmps102
  go_wp2_with (first|(refine lB 196 (.tmp 3) w.heap.size BA.out Tryz.underlying196 ?_)|(go_at_call 132;refine (UP.out _).mono ?_;rintro e w2 ⟨rfl,hb⟩;replace FR:=zH (FR.out.fut hb);replace BA:=zH (BA.out.fut hb);clear hb hw_w1))
  go_ret3
  rw [R.out]
  exact RetFlow.none FR.out.out
 have t3:decide (hi < lo)=false:=by simpa using c3
 have V2:=zH (show r=endG n (runG stepR l (lo,hi) n) by rw [VV.out,if_neg c1,if_neg c2,if_neg c3])
 clear c1 c2 c3 VV
 go_enter Tryz.func102,Tryz.ntmps102
 go_wp2_with (first|(refine lB 196 (.tmp 3) w.heap.size BA.out Tryz.underlying196 ?_)|(go_at_call 132;refine (UP.out _).mono ?_;rintro e w2 ⟨rfl,hb⟩;replace FR:=zH (FR.out.fut hb);replace BA:=zH (BA.out.fut hb);clear hb hw_w1)|(refine wpList_lit1 rfl (.tmp 23) rfl ei_reach #[.int .i8 lo,.int .i8 hi] rfl rfl (by decide) ?_))
 have z2:=FR.out.size
 go_loopw [7,27] (fun u i wr=>∃ (k:Nat) (out:List (Int × Int)),k≤n∧i=.int .i64 k∧runG stepR l (lo,hi) k=.on out∧(∀ p ∈ out,InK .i8 p.1∧InK .i8 p.2)∧Own (tRg .i8) wr (fun _=>False) w.heap.size 196 u (k+1) out∧Below w.heap.size w wr) (fun _ i _=>n - (intOf i).toNat)
 case atStart=>exact ⟨0,[(lo,hi)],Nat.zero_le _,rfl,rfl,by intro p hp;rw [List.mem_singleton.1 hp];exact II.out,Own.one z2 (rg_rep II.out.1 II.out.2),FR.out.out.alloc z2 _⟩
 case round =>
  clear FR BA z2 t1 t2 t3
  obtain ⟨k,out,hk,rfl,hrun,hin,hown,hb⟩:=hrel
  have HB:=zH hb
  have ON:=zH hown
  have HR:=zH hrun
  have HI:=zH hin
  obtain ⟨A1,c1,rfl,sl⟩:=hown.sl (S':=bin w.heap.size wr.heap.size) (by show 0 < 2;decide) (fun b h1 h2=>⟨h1,h2⟩) (fun _ h=>h.elim)
  have SL:=zH sl
  clear hb hown hrun sl hin
  by_cases hlt:k < n
  ·have p1:(k:Int) < (n:Int):=by omega
   obtain ⟨d,b0,off,W,nw,cw,B,nb,cb,hd,rfl,_,_,hin,hw8,hw32,hrg⟩:=(H.out.below HB.out (fun _ h=>h)).node_at k hlt
   have hsz:=HF.out d (List.mem_of_getElem? hd)
   have hs1:=H1.out d (List.mem_of_getElem? hd)
   have hnx:=runG_next HR.out hd
   have q8:=hw8.n_eq
   have q32:=hw32.n_eq
   rw [q8] at hs1
   have HS1:=zH hs1
   have RG:=zH hrg
   have HIN:=zH hin
   have HW:=zH (hw8.more (blo_more HB.out.size))
   have HW32:=zH (hw32.more (blo_more HB.out.size))
   have hxi:=stepR_in HI.out hin
   obtain ⟨⟨⟨x1,x2⟩,xe⟩,hx⟩:∃ x,stepR d out=x:=⟨_,rfl⟩
   rw [hx] at hnx hxi
   simp only at hnx
   have NX:=zH hnx
   have HX:=zH hx
   have XI:=zH hxi
   clear hd hin hw8 hw32 hrg hnx hx hs1 hxi
   have zr:=HB.out.size
   go_wp2_with (first
    | (refine wpList_load_mid rfl 87 (.tmp 30) rfl b0 (off+k*19) rfl _ _ RG.out Tryz.underlying87 rfl (by kernel_rfl) ?_)
    | (refine sB 87 (.tmp 9) (.tmp 31) wr.heap.size (nN d.kind d.a d.b d.k d.s d.p d.out d.za d.zb W nw cw B nb cb d.qm d.qs d.qz d.rm d.rs d.rz d.lo d.hi) (Blk.now _ _ _ _ rfl) ?_;intro w7 B7 g7;have G7:=zH (show Below wr.heap.size wr w7 from ((Below.refl _ _).alloc (Nat.le_refl _) _).grown g7 (by simp) (fun k h=>by have:=Option.some.inj h;omega));have BD:=zH B7;clear B7 g7)
    | (refine lB 87 (.tmp 9) wr.heap.size BD.out Tryz.underlying87 ?_))
   have z7:=G7.out.size
   refine (guardStep_any d W nw cw B nb cb A1 (k+1) c1 out w7 (HW.out.later G7.out (Nat.le_refl _)) (HW32.out.later G7.out (Nat.le_refl _)) HIN.out ((SL.out.more bin_blo).later G7.out (Nat.le_refl _)) (by omega) (by omega) HS1.out).mono ?_
   rintro e w8 ⟨he,hb⟩
   rw [HX.out] at he
   simp only at he
   subst he
   have G8:=zH (below_later hb G7.out)
   have O8:=zH ((ON.out.below G7.out (Nat.le_refl _) (fun _ h=>h.elim)).below hb (Nat.le_refl _) (fun _ h=>h.elim))
   have z8:=hb.size
   clear hb HX
   by_cases hxe:xe=0
   ·subst hxe
    have t4:((0:Int) != 0)=false:=rfl
    rw [if_neg (by decide)] at NX
    go_wp2_with (first
     | (refine sB 196 (.tmp 10) (.tmp 36) w8.heap.size #[.int .i8 x1,.int .i8 x2] (Blk.now _ _ _ _ rfl) ?_;intro w9 B9 g9;have G9:=zH (show Below w8.heap.size w8 w9 from ((Below.refl _ _).alloc (Nat.le_refl _) _).grown g9 (by simp) (fun k h=>by have:=Option.some.inj h;omega));have BX:=zH B9;clear B9 g9)
     | (refine lB 196 (.tmp 10) w8.heap.size BX.out Tryz.underlying196 ?_)
     | (refine wpList_lit1 rfl (.tmp 43) rfl ei_reach #[.int .i8 x1,.int .i8 x2] rfl rfl (by decide) ?_)
     | (at_builtin;refine wpList_push (W:=w9) (cs:=#[.int .i8 x1,.int .i8 x2]) (E:=196) (t:=tRg .i8) (S:=fun _=>False) (base:=w.heap.size) rfl (.tmp 42) (.tmp 44) rfl ei_reach rfl (O8.out.below G9.out (Nat.le_refl _) (fun _ h=>h.elim)) 1 rfl (x1,x2) (rg_rep XI.out.1 XI.out.2) (by unfold maxLen;omega) (by omega) (by have:=G9.out.size;omega) (fun _ h=>h.elim) ?_;intro v' wz ownz gz atz))
    have bz:=(below_later G9.out (below_later G8.out HB.out)).grown gz (by have:=G9.out.size;omega) (fun j hj=>(O8.out.lt j hj).1)
    exact ⟨⟨k+1,out ++ [(x1,x2)],by omega,by go_num,NX.out,by intro p hp;rcases List.mem_append.1 hp with h|h;exact HI.out p h;rw [List.mem_singleton.1 h];exact XI.out,ownz,bz⟩,by simp [intOf];omega⟩
   ·have t4:(xe != 0)=true:=by simpa using hxe
    rw [if_pos hxe] at NX
    have R:=zH (show r=([],(k:Int),xe) by rw [V2.out,runG_bad NX.out n (by omega)];rfl)
    clear hxe NX V2
    go_wp2_with (refine sB 196 (.tmp 10) (.tmp 36) w8.heap.size #[.int .i8 x1,.int .i8 x2] (Blk.now _ _ _ _ rfl) ?_;intro w9 B9 g9;have G9:=zH (show Below w8.heap.size w8 w9 from ((Below.refl _ _).alloc (Nat.le_refl _) _).grown g9 (by simp) (fun k h=>by have:=Option.some.inj h;omega));have BX:=zH B9;clear B9 g9)
    go_ret3
    rw [R.out]
    exact RetFlow.none (below_later G9.out (below_later G8.out HB.out))
  ·obtain rfl:k=n:=by omega
   have R:=zH (show r=(out,(k:Int),0) by rw [V2.out,HR.out];rfl)
   clear hlt hk V2
   go_wp2_with fail
   go_ret3
   rw [R.out]
   exact ⟨A1,_,c1,rfl,SL.out,HB.out⟩
def headR (w bias:List Int) (lo hi:Int):Int:=if (allR w bias lo hi 0 false).length=0 then 9 else if holdsR (allR w bias lo hi 0 false)=true then 0 else 10
theorem allR_len {w bias:List Int} {lo hi z:Int} {gaps:Bool}:(allR w bias lo hi z gaps).length=if bias.length=0 ∨ ¬ w.length % bias.length=0 then 0 else bias.length:=by
 unfold allR;split <;> simp
theorem guardHead_any (W:Option Addr) (nw cw:Nat) (wl:List Int) (B:Option Addr) (nb cb:Nat) (bl:List Int) (need lo hi:Int) (w:World) (hw:Sl (tInt .i8) w (blo w.heap.size) W nw cw wl) (hb:Sl (tInt .i32) w (blo w.heap.size) B nb cb bl)
  (hlo:InK .i8 lo) (hhi:InK .i8 hi) (mw:nw≤16384) (mb:nb≤16384) (hw1:1≤nw) :
  Calls Tryz.prog 136 #[.agg #[.slice W nw cw,.slice B nb cb,.int .i32 need],.agg #[.int .i8 lo,.int .i8 hi]] w fun e w'=>e=.returned (.int .i64 (headR wl bl lo hi))∧Below w.heap.size w w':=by
 have CA:=zH (fun w hw hb=>spanAll_any ⟨0,0,0,0,0,0,0,0,0,wl,bl,0,0,0,0,0,0,0,0⟩ W nw cw B nb cb lo hi w hw hb (show InK .i8 0 by decide) hlo hhi mw mb hw1)
 rw [show decide ((0:Int) < 0)=false from rfl] at CA
 have HB:=zH (Old.now hb)
 have HW:=zH (Old.now hw)
 have FR:=zH (Far.refl w)
 obtain ⟨r,hr⟩:∃ r,headR wl bl lo hi=r:=⟨_,rfl⟩
 rw [hr]
 unfold headR at hr
 have LN:=zH (allR_len (w:=wl) (bias:=bl) (lo:=lo) (hi:=hi) (z:=0) (gaps:=false))
 rw [hb.n_eq,hw.n_eq] at LN
 obtain ⟨L,hL⟩:∃ L,allR wl bl lo hi 0 false=L:=⟨_,rfl⟩
 rw [hL] at CA hr LN
 have VV:=zH hr.symm
 clear hw hb hlo hhi hr hL
 obtain ⟨w1,hw_w1,BH,k_w1⟩:=nB w #[.slice W nw cw,.slice B nb cb,.int .i32 need] 47
 replace FR:=zH (FR.out.fut k_w1)
 clear k_w1
 obtain ⟨w2,hw_w2,BA,k_w2⟩:=nB w1 #[.int .i8 lo,.int .i8 hi] 196
 replace FR:=zH (FR.out.fut k_w2)
 replace BH:=zH (BH.out.fut k_w2)
 clear k_w2
 have h0:=BH.out.cell 0
 have h1:=BH.out.cell 1
 have a0:=BA.out.cell 0
 have a1:=BA.out.cell 1
 have LL:=zH (show 0≤L.length from Nat.zero_le _)
 go_enter Tryz.func136,Tryz.ntmps136
 go_wp2_with fail
 clear hw_w1 hw_w2 h0 h1 a0 a1
 refine (CA.out _ (HW.out.fut FR.out.out).all (HB.out.fut FR.out.out).all).mono ?_
 rintro e w3 ⟨A2,n2,c2,rfl,s2,hb⟩
 have S2:=zH (Old.now s2.old)
 have N2:=s2.n_eq
 clear s2 CA LL
 replace FR:=zH (FR.out.fut hb)
 clear hb
 rw [N2] at VV
 by_cases c0:n2=0
 ·have t0:((n2:Int) == 0)=true:=by simp [c0]
  rw [if_pos c0] at VV
  clear c0
  go_wp2_with fail
  go_ret
  exact ⟨by rw [VV.out];rfl,FR.out.out⟩
 have t0:((n2:Int) == 0)=false:=by simp [c0]
 rw [if_neg c0] at VV
 have HO:=zH (fun w hs=>spanHolds_any A2 n2 c2 L w hs)
 obtain ⟨ok,hok⟩:∃ b,holdsR L=b:=⟨_,rfl⟩
 rw [hok] at HO VV
 clear c0 hok
 cases ok with
 | false =>
  rw [if_neg (by decide)] at VV
  go_wp2_with (go_at_call 167;refine (HO.out _ S2.out.all).mono ?_;rintro e w5 ⟨rfl,hb⟩;replace FR:=zH (FR.out.fut hb);clear hb)
  go_ret
  exact ⟨by rw [VV.out];rfl,FR.out.out⟩
 | true =>
  rw [if_pos rfl] at VV
  go_wp2_with (go_at_call 167;refine (HO.out _ S2.out.all).mono ?_;rintro e w5 ⟨rfl,hb⟩;replace FR:=zH (FR.out.fut hb);clear hb)
  go_ret
  exact ⟨by rw [VV.out];rfl,FR.out.out⟩
theorem rguardHead_any (W:Option Addr) (nw cw:Nat) (wl:List Int) (B:Option Addr) (nb cb:Nat) (bl:List Int) (need lo hi:Int) (w:World) (hw:Sl (tInt .i8) w (blo w.heap.size) W nw cw wl) (hb:Sl (tInt .i32) w (blo w.heap.size) B nb cb bl)
  (hlo:InK .i8 lo) (hhi:InK .i8 hi) (mw:nw≤16384) (mb:nb≤16384) (hw1:1≤nw) :
  Calls Tryz.prog 48 #[.agg #[.slice W nw cw,.slice B nb cb,.int .i32 need],.agg #[.int .i8 lo,.int .i8 hi]] w fun e w'=>e=.returned (.int .i64 (headR wl bl lo hi))∧Below w.heap.size w w':=by
 have SH:=zH (fun w=>rshared_any W nw cw B nb cb w (by unfold maxLen;omega) (by unfold maxLen;omega))
 have CA:=zH (fun w hw hb h0 hr=>rrows_any W nw cw wl B nb cb bl lo hi 0 false w hw hb (by decide) hlo hhi mw mb hw1 h0 hr)
 have HB:=zH (Old.now hb)
 have HW:=zH (Old.now hw)
 have FR:=zH (Far.refl w)
 obtain ⟨r,hr⟩:∃ r,headR wl bl lo hi=r:=⟨_,rfl⟩
 rw [hr]
 unfold headR at hr
 have LN:=zH (allR_len (w:=wl) (bias:=bl) (lo:=lo) (hi:=hi) (z:=0) (gaps:=false))
 rw [hb.n_eq,hw.n_eq] at LN
 obtain ⟨L,hL⟩:∃ L,allR wl bl lo hi 0 false=L:=⟨_,rfl⟩
 rw [hL] at CA hr LN
 have VV:=zH hr.symm
 clear hw hb hlo hhi hr hL
 obtain ⟨w1,hw_w1,BH,k_w1⟩:=nB w #[.slice W nw cw,.slice B nb cb,.int .i32 need] 47
 replace FR:=zH (FR.out.fut k_w1)
 clear k_w1
 obtain ⟨w2,hw_w2,BA,k_w2⟩:=nB w1 #[.int .i8 lo,.int .i8 hi] 131
 replace FR:=zH (FR.out.fut k_w2)
 replace BH:=zH (BH.out.fut k_w2)
 clear k_w2
 have h0:=BH.out.cell 0
 have h1:=BH.out.cell 1
 have a0:=BA.out.cell 0
 have a1:=BA.out.cell 1
 have LL:=zH (show 0≤L.length from Nat.zero_le _)
 by_cases hsh:nb=0 ∨ ¬ nw % nb=0
 ·have SV:=zH (show (decide (0 < nb) && decide (nw % nb=0))=false by rcases hsh with h|h;rw [h];rfl;rw [decide_eq_false h,Bool.and_false])
  rw [SV.out] at SH
  rw [if_pos hsh] at LN
  rw [if_pos LN.out] at VV
  clear hsh CA LL
  go_enter Tryz.func48,Tryz.ntmps48
  go_wp2_with (go_at_call 74;refine (SH.out _).mono ?_;rintro e w5 ⟨rfl,hb⟩;replace FR:=zH (FR.out.fut hb);clear hb)
  go_ret
  exact ⟨by rw [VV.out];rfl,FR.out.out⟩
 have hsn:¬ nb=0∧nw % nb=0:=by omega
 have SV:=zH (show (decide (0 < nb) && decide (nw % nb=0))=true by rw [decide_eq_true hsn.2,decide_eq_true (by omega)];rfl)
 rw [SV.out] at SH
 rw [if_neg hsh] at LN
 rw [if_neg (by rw [LN.out];exact hsn.1)] at VV
 replace CA:=zH (fun w hw hb=>CA.out w hw hb hsn.1 hsn.2)
 obtain ⟨⟨p,q⟩,hpq⟩:∃ y,bothR L=y:=⟨_,rfl⟩
 obtain ⟨ok,hok⟩:∃ y,holdsR L=y:=⟨_,rfl⟩
 rw [hpq,hok] at CA
 rw [hok] at VV
 simp only at CA
 clear hpq hok hsh hsn LL
 cases ok with
 | false =>
  rw [if_neg (by decide)] at VV
  go_enter Tryz.func48,Tryz.ntmps48
  go_wp2_with (first|(go_at_call 74;refine (SH.out _).mono ?_;rintro e w5 ⟨rfl,hb⟩;replace FR:=zH (FR.out.fut hb);replace BH:=zH (BH.out.fut hb);replace BA:=zH (BA.out.fut hb);clear hb hw_w1 hw_w2 h0 h1 a0 a1;have h0:=BH.out.cell 0;have h1:=BH.out.cell 1;have a0:=BA.out.cell 0;have a1:=BA.out.cell 1)|(go_at_call 75;refine (CA.out _ (HW.out.fut FR.out.out).all (HB.out.fut FR.out.out).all).mono ?_;rintro e w6 ⟨rfl,hb⟩;replace FR:=zH (FR.out.fut hb);clear hb))
  go_ret
  exact ⟨by rw [VV.out];rfl,FR.out.out⟩
 | true =>
  rw [if_pos rfl] at VV
  go_enter Tryz.func48,Tryz.ntmps48
  go_wp2_with (first|(go_at_call 74;refine (SH.out _).mono ?_;rintro e w5 ⟨rfl,hb⟩;replace FR:=zH (FR.out.fut hb);replace BH:=zH (BH.out.fut hb);replace BA:=zH (BA.out.fut hb);clear hb hw_w1 hw_w2 h0 h1 a0 a1;have h0:=BH.out.cell 0;have h1:=BH.out.cell 1;have a0:=BA.out.cell 0;have a1:=BA.out.cell 1)|(go_at_call 75;refine (CA.out _ (HW.out.fut FR.out.out).all (HB.out.fut FR.out.out).all).mono ?_;rintro e w6 ⟨rfl,hb⟩;replace FR:=zH (FR.out.fut hb);clear hb))
  go_ret
  exact ⟨by rw [VV.out];rfl,FR.out.out⟩
structure BlkD where
 nodes:List Node
 exit:Bool
 head:Hd
structure Bun where
 h:Int
 v:Int
 c:Int
 cl:Int
 models:List (List BlkD)
def tBlk:Ty BlkD:=tMap (fun x:List Node × Bool × Hd=>⟨x.1,x.2.1,x.2.2⟩) (tPair (tSlice tNode) (tPair tBool tHd))
def tModel:Ty (List BlkD):=tSlice tBlk
def tBun:Ty Bun:=tMap (fun x:(Int × Int × Int) × Int × List (List BlkD)=>⟨x.1.1,x.1.2.1,x.1.2.2,x.2.1,x.2.2⟩) (tPair tShape (tPair (tInt .i64) (tSlice tModel)))
theorem opens_blB:Opens Tryz.prog 4 tBool:=opens_bool Tryz.underlying4 (by kernel_rfl)
theorem opens_blk:Opens Tryz.prog 49 tBlk :=
 opens_map _ (opens_struct Tryz.underlying49 (by kernel_rfl) (opensFrom_cons rfl (opens_slice Tryz.underlying43 (by kernel_rfl) (by decide) opens_node) (opensFrom_cons rfl opens_blB (opensFrom_last rfl opens_hd))))
theorem opens_model:Opens Tryz.prog 41 tModel :=
 opens_struct Tryz.underlying41 (by kernel_rfl) (opensFrom_last rfl (opens_slice Tryz.underlying39 (by kernel_rfl) (by decide) opens_blk))
theorem opens_bun:Opens Tryz.prog 26 tBun :=
 opens_map _ (opens_struct Tryz.underlying26 (by kernel_rfl) (opensFrom_cons rfl opens_shape (opensFrom_cons rfl opens_i64 (opensFrom_last rfl (opens_slice Tryz.underlying24 (by kernel_rfl) (by decide) opens_model)))))
structure BlkAt (b:BlkD) (L:Option Addr) (n cn:Nat) (W:Option Addr) (nw cw:Nat) (B:Option Addr) (nb cb:Nat) (S:Nat → Prop) (w:World):Prop where
 nodes:Sl tNode w S L n cn b.nodes
 hw:Sl (tInt .i8) w S W nw cw b.head.w
 hb:Sl (tInt .i32) w S B nb cb b.head.bias
 need:InK .i32 b.head.need
theorem blk_open {w:World} {S:Nat → Prop} {cs:List Value} {b:BlkD} (h:tBlk.rep w S cs b) :
  ∃ L n cn W nw cw B nb cb,cs=[.slice L n cn,.bool b.exit,.slice W nw cw,.slice B nb cb,.int .i32 b.head.need]∧BlkAt b L n cn W nw cw B nb cb S w:=by
 obtain ⟨⟨l,e,hd⟩,rfl,c1,r1,rfl,h1,c2,r2,rfl,rfl,h3⟩:=h
 obtain ⟨L,cn,rfl,hl⟩:=tSlice_iff.1 h1
 obtain ⟨W,nw,cw,B,nb,cb,rfl,hk,hw,hb⟩:=hd_open h3
 exact ⟨L,_,cn,W,nw,cw,B,nb,cb,rfl,hl,hw,hb,hk⟩
theorem hd_rep {w:World} {S:Nat → Prop} {W:Option Addr} {nw cw:Nat} {B:Option Addr} {nb cb:Nat} {h:Hd} (hw:Sl (tInt .i8) w S W nw cw h.w) (hb:Sl (tInt .i32) w S B nb cb h.bias) (hk:InK .i32 h.need):tHd.rep w S [.slice W nw cw,.slice B nb cb,.int .i32 h.need] h :=
 ⟨(h.w,h.bias,h.need),rfl,[_],[_,_],rfl,hw.rep,[_],[_],rfl,hb.rep,rfl,hk⟩
theorem blk_rep {w:World} {S:Nat → Prop} {b:BlkD} {L:Option Addr} {n cn:Nat} {W:Option Addr} {nw cw:Nat} {B:Option Addr} {nb cb:Nat} (h:BlkAt b L n cn W nw cw B nb cb S w):tBlk.rep w S [.slice L n cn,.bool b.exit,.slice W nw cw,.slice B nb cb,.int .i32 b.head.need] b :=
 ⟨(b.nodes,b.exit,b.head),rfl,[_],[_,_,_,_],rfl,h.nodes.rep,[_],[_,_,_],rfl,rfl,hd_rep h.hw h.hb h.need⟩
theorem BlkAt.keep {b:BlkD} {L:Option Addr} {n cn:Nat} {W:Option Addr} {nw cw:Nat} {B:Option Addr} {nb cb:Nat} {S S':Nat → Prop} {w w':World} (h:BlkAt b L n cn W nw cw B nb cb S w) (hk:∀ x,S x → w'.heap[x]?=w.heap[x]?) (hs:∀ x,S x → S' x):BlkAt b L n cn W nw cw B nb cb S' w' :=
 ⟨(h.nodes.keep hk).more hs,(h.hw.keep hk).more hs,(h.hb.keep hk).more hs,h.need⟩
theorem BlkAt.fut {b:BlkD} {L:Option Addr} {n cn:Nat} {W:Option Addr} {nw cw:Nat} {B:Option Addr} {nb cb:Nat} {w w':World} (h:BlkAt b L n cn W nw cw B nb cb (blo w.heap.size) w) (hb:Below w.heap.size w w'):BlkAt b L n cn W nw cw B nb cb (blo w'.heap.size) w' :=
 h.keep (fun x hx=>hb.block x hx) (blo_more hb.size)
theorem Sl.blk_at {w:World} {S:Nat → Prop} {A:Option Addr} {n cap:Nat} {l:List BlkD} (h:Sl tBlk w S A n cap l) (i:Nat) (hi:i < n) :
  ∃ b g off L m cm W nw cw B nb cb,l[i]?=some b∧A=some ⟨g,off,none⟩∧S g∧w.rangeAt g (off+i*5) [.slice L m cm,.bool b.exit,.slice W nw cw,.slice B nb cb,.int .i32 b.head.need]∧BlkAt b L m cm W nw cw B nb cb S w:=by
 obtain ⟨b,g,off,xs,hx,hA,hS,-,hr,-,hc⟩:=h.cells i hi (by decide)
 obtain ⟨L,m,cm,W,nw,cw,B,nb,cb,rfl,hb⟩:=blk_open hr
 refine ⟨b,g,off,L,m,cm,W,nw,cw,B,nb,cb,hx,hA,hS,fun j v hv=>?_,hb⟩
 have:=hc j v hv
 rw [show tBlk.size=5 from rfl] at this
 rw [Nat.add_assoc]
 exact this
theorem Sl.model_at {w:World} {S:Nat → Prop} {A:Option Addr} {n cap:Nat} {l:List (List BlkD)} (h:Sl tModel w S A n cap l) (i:Nat) (hi:i < n) :
  ∃ m g off A' n' c',l[i]?=some m∧A=some ⟨g,off,none⟩∧S g∧w.cell? ⟨g,off+i,none⟩=some (.slice A' n' c')∧Sl tBlk w S A' n' c' m:=by
 obtain ⟨m,g,off,v,hx,hA,hS,-,hr,hc⟩:=h.cell1 rfl i hi
 obtain ⟨A',c',e,hs⟩:=tSlice_iff.1 hr
 simp only [List.cons.injEq,and_true] at e
 subst e
 exact ⟨m,g,off,A',_,c',hx,hA,hS,hc,hs⟩
theorem bun_open {w:World} {S:Nat → Prop} {cs:List Value} {u:Bun} (h:tBun.rep w S cs u) :
  ∃ A n cap,cs=[.int .i64 u.h,.int .i64 u.v,.int .i64 u.c,.int .i64 u.cl,.slice A n cap]∧(InK .i64 u.h∧InK .i64 u.v∧InK .i64 u.c∧InK .i64 u.cl)∧Sl tModel w S A n cap u.models:=by
 obtain ⟨⟨⟨a,b,c⟩,k,l⟩,rfl,_,_,rfl,⟨_,_,rfl,⟨rfl,h1⟩,_,_,rfl,⟨rfl,h2⟩,rfl,h3⟩,_,_,rfl,⟨rfl,h4⟩,h5⟩:=h
 obtain ⟨A,cap,rfl,hs⟩:=tSlice_iff.1 h5
 exact ⟨A,_,cap,rfl,⟨h1,h2,h3,h4⟩,hs⟩
/-! ### What is wrong with a bundle -/
def fewB (b:BlkD):Prop:=(b.nodes.length≤12∧∀ d ∈ b.nodes,d.w.length≤1000∧d.bias.length≤100)∧b.head.w.length≤4000∧b.head.bias.length≤100
def fewU (u:Bun):Prop:=u.models.length≤4∧∀ m ∈ u.models,m.length≤8∧∀ b ∈ m,fewB b
def toldH (h:Hd):Bool:=decide (0 < h.w.length) || (decide (0 < h.bias.length) || h.need != 0)
def exitV (b:BlkD) (out:Sh3) (r:Int × Int) (cl:Int) (last:Bool):Int :=
 if b.exit=false then (if last=true ∨ toldH b.head=true then 11 else 0)
 else if checkI (elems out.1 out.2.1 out.2.2) b.head.w.length b.head.bias.length b.head.need cl ≠ 0 then checkI (elems out.1 out.2.1 out.2.2) b.head.w.length b.head.bias.length b.head.need cl
 else headR b.head.w b.head.bias r.1 r.2
def blockV (b:BlkD) (s:Sh3) (cl:Int) (last:Bool):Int × Int :=
 if (shapesV b.nodes s).2.2 ≠ 0 then (shapesV b.nodes s).2 else if (flowR b.nodes (-128,127)).2.2 ≠ 0 then (flowR b.nodes (-128,127)).2
 else if exitV b ((shapesV b.nodes s).1.getD b.nodes.length (0,0,0)) ((flowR b.nodes (-128,127)).1.getD b.nodes.length (0,0)) cl last ≠ 0 then (-1,exitV b ((shapesV b.nodes s).1.getD b.nodes.length (0,0,0)) ((flowR b.nodes (-128,127)).1.getD b.nodes.length (0,0)) cl last)
 else (b.nodes.length,0)
def outV (b:BlkD) (s:Sh3):Sh3:=(shapesV b.nodes s).1.getD b.nodes.length (0,0,0)
def noBlk:BlkD:=⟨[],false,⟨[],[],0⟩⟩
inductive RunM where
 | on (s:Sh3)
 | bad (i:Nat) (at' e:Int)
def runM (l:List BlkD) (s:Sh3) (cl:Int):Nat → RunM
 | 0=>.on s
 | k+1=>match runM l s cl k with
  | .on s'=>if (blockV (l.getD k noBlk) s' cl ((k:Int) == (l.length:Int) - 1)).2 ≠ 0 then .bad k (blockV (l.getD k noBlk) s' cl ((k:Int) == (l.length:Int) - 1)).1 (blockV (l.getD k noBlk) s' cl ((k:Int) == (l.length:Int) - 1)).2
   else .on (outV (l.getD k noBlk) s')
  | .bad i a e=>.bad i a e
abbrev F4:=Int × Int × Int × Int
def modelV (l:List BlkD) (s:Sh3) (cl:Int) (at':Int):F4 :=
 if l.length=0 then (12,at',-1,-1) else if 6 < l.length then (4,at',-1,-1) else match runM l s cl l.length with
  | .on _=>(0,0,0,0)
  | .bad i a e=>(e,at',i,a)
def wholeV (u:Bun):Int:=if elems u.h u.v u.c=0 then 5 else if u.cl < 2 ∨ 16 < u.cl then 2 else if u.models.length=0 then 12 else if 3 < u.models.length then 4 else 0
def runU (u:Bun):Nat → F4
 | 0=>(0,0,0,0)
 | k+1=>if (runU u k).1 ≠ 0 then runU u k else modelV (u.models.getD k []) (u.h,u.v,u.c) u.cl k
def bundleV (u:Bun):F4:=if wholeV u ≠ 0 then (wholeV u,-1,-1,-1) else runU u u.models.length
theorem runM_bad {l : List BlkD} {s : Sh3} {cl : Int} {k i : Nat} {a e : Int} (h : runM l s cl k = .bad i a e) : ∀ m, k ≤ m → runM l s cl m = .bad i a e := by
  intro m hm
  induction m with
  | zero => obtain rfl : k = 0 := by omega
            exact h
  | succ m ih =>
    by_cases hk : k = m + 1
    · subst hk; exact h
    · have := ih (by omega)
      show (match runM l s cl m with | .on s' => _ | .bad i a e => _) = _
      rw [this]
theorem runM_next {l:List BlkD} {s s':Sh3} {cl:Int} {k:Nat} {b:BlkD} (h:runM l s cl k=.on s') (hb:l[k]?=some b) :
  runM l s cl (k+1)=if (blockV b s' cl ((k:Int) == (l.length:Int) - 1)).2 ≠ 0 then .bad k (blockV b s' cl ((k:Int) == (l.length:Int) - 1)).1 (blockV b s' cl ((k:Int) == (l.length:Int) - 1)).2 else .on (outV b s'):=by
 have e:l.getD k noBlk=b:=by rw [List.getD_eq_getElem?_getD,hb];rfl
 show (match runM l s cl k with|.on s'=>_|.bad i a e=>_)=_
 rw [h]
 simp only [e]
theorem runM_err {l:List BlkD} {s:Sh3} {cl:Int} (k:Nat):∀ {i:Nat} {a e:Int},runM l s cl k=.bad i a e → e ≠ 0:=by
 induction k with
 | zero=>intro i a e h;cases h
 | succ k ih =>
  intro i a e h
  unfold runM at h
  cases hr:runM l s cl k with
  | bad i' a' e'=>rw [hr] at h;cases h;exact ih hr
  | on o =>
   rw [hr] at h
   simp only at h
   split at h
   ·rename_i c;cases h;exact c
   ·cases h
theorem modelV_zero {l:List BlkD} {s:Sh3} {cl at':Int} (h:(modelV l s cl at').1=0):modelV l s cl at'=(0,0,0,0):=by
 unfold modelV at *
 split at h
 ·cases h
 split at h
 ·cases h
 rw [if_neg ‹_›,if_neg ‹_›]
 cases hr:runM l s cl l.length with
 | on o=>rfl
 | bad i a e=>rw [hr] at h;exact absurd h (runM_err _ hr)
theorem runU_bad {u : Bun} {k : Nat} (h : (runU u k).1 ≠ 0) : ∀ m, k ≤ m → runU u m = runU u k := by
  intro m hm
  induction m with
  | zero => obtain rfl : k = 0 := by omega
            rfl
  | succ m ih =>
    by_cases hk : k = m + 1
    · subst hk; rfl
    · have := ih (by omega)
      show (if (runU u m).1 ≠ 0 then runU u m else _) = _
      rw [this, if_pos h]
theorem runU_next {u:Bun} {k:Nat} {m:List BlkD} (h:(runU u k).1=0) (hm:u.models[k]?=some m):runU u (k+1)=modelV m (u.h,u.v,u.c) u.cl k:=by
 have e:u.models.getD k []=m:=by rw [List.getD_eq_getElem?_getD,hm];rfl
 show (if (runU u k).1 ≠ 0 then runU u k else _)=_
 rw [if_neg (by simpa using h),e]
theorem runU_zero {u:Bun}:∀ {k:Nat},(runU u k).1=0 → runU u k=(0,0,0,0)
 | 0,_=>rfl
 | k+1,h=>by
  unfold runU at h ⊢
  split at h
  ·rename_i c;exact absurd h c
  ·rename_i c
   rw [if_neg c]
   exact modelV_zero h
/-! ### What a bundle that may be tells -/
structure BlockOk (b:BlkD) (s:Sh3) (cl:Int) (last:Bool):Prop where
 shapes:(shapesV b.nodes s).2.2=0
 flow:(flowR b.nodes (-128,127)).2.2=0
 exit:exitV b (outV b s) ((flowR b.nodes (-128,127)).1.getD b.nodes.length (0,0)) cl last=0
theorem blockV_ok {b:BlkD} {s:Sh3} {cl:Int} {last:Bool} (h:(blockV b s cl last).2=0):BlockOk b s cl last:=by
 unfold blockV at h
 split at h
 ·rename_i c;exact absurd h c
 split at h
 ·rename_i _ c;exact absurd h c
 split at h
 ·rename_i _ _ c;exact absurd h c
 ·rename_i c1 c2 c3
  exact ⟨Decidable.not_not.1 c1,Decidable.not_not.1 c2,Decidable.not_not.1 c3⟩
def inV (l:List BlkD) (s:Sh3):Nat → Sh3
 | 0=>s
 | k+1=>outV (l.getD k noBlk) (inV l s k)
theorem runM_ok {l:List BlkD} {s:Sh3} {cl:Int} (k:Nat):∀ {s':Sh3},runM l s cl k=.on s' → s'=inV l s k∧∀ i,i < k → BlockOk (l.getD i noBlk) (inV l s i) cl ((i:Int) == (l.length:Int) - 1):=by
 induction k with
 | zero=>intro s' h;cases h;exact ⟨rfl,fun i hi=>absurd hi (Nat.not_lt_zero _)⟩
 | succ k ih =>
  intro s' h
  unfold runM at h
  cases hr:runM l s cl k with
  | bad i a e=>rw [hr] at h;cases h
  | on o =>
   rw [hr] at h
   obtain ⟨rfl,hk⟩:=ih hr
   simp only at h
   split at h
   ·cases h
   ·rename_i c
    cases h
    have hb:=blockV_ok (Decidable.not_not.1 c)
    refine ⟨rfl,fun i hi=>?_⟩
    by_cases hik:i < k
    ·exact hk i hik
    ·obtain rfl:i=k:=by omega
     exact hb
structure ModelOk (l:List BlkD) (s:Sh3) (cl:Int):Prop where
 one:1≤l.length
 six:l.length≤6
 blocks:∀ i,i < l.length → BlockOk (l.getD i noBlk) (inV l s i) cl ((i:Int) == (l.length:Int) - 1)
theorem modelV_ok {l:List BlkD} {s:Sh3} {cl at':Int} (h:(modelV l s cl at').1=0):ModelOk l s cl:=by
 unfold modelV at h
 split at h
 ·cases h
 split at h
 ·cases h
 rename_i c1 c2
 cases hr:runM l s cl l.length with
 | on o=>exact ⟨by omega,by omega,(runM_ok _ hr).2⟩
 | bad i a e=>rw [hr] at h;exact absurd h (runM_err _ hr)
structure BunOk (u:Bun):Prop where
 input:elems u.h u.v u.c ≠ 0
 cl:2≤u.cl∧u.cl≤16
 one:1≤u.models.length
 three:u.models.length≤3
 models:∀ i,i < u.models.length → ModelOk (u.models.getD i []) (u.h,u.v,u.c) u.cl
theorem bundleV_ok {u:Bun} (h:(bundleV u).1=0):BunOk u:=by
 unfold bundleV at h
 split at h
 ·rename_i c;exact absurd h c
 rename_i c
 have hw:=Decidable.not_not.1 c
 unfold wholeV at hw
 split at hw
 ·cases hw
 split at hw
 ·cases hw
 split at hw
 ·cases hw
 split at hw
 ·cases hw
 rename_i c1 c2 c3 c4
 have key:∀ k,(runU u k).1=0 → ∀ i,i < k → ModelOk (u.models.getD i []) (u.h,u.v,u.c) u.cl:=by
  intro k
  induction k with
  | zero=>intro _ i hi;exact absurd hi (Nat.not_lt_zero _)
  | succ k ih =>
   intro hk i hi
   unfold runU at hk
   split at hk
   ·rename_i c;exact absurd hk c
   ·rename_i c
    by_cases hik:i < k
    ·exact ih (Decidable.not_not.1 c) i hik
    ·obtain rfl:i=k:=by omega
     exact modelV_ok hk
 exact ⟨c1,by omega,by omega,by omega,key _ h⟩
theorem nodeSize:tNode.size=19:=rfl
theorem ei_modelC:EI Tryz.prog 24 41 (.agg #[.slice none 0 0]) 1 24:=⟨Tryz.underlying24,by kernel_rfl,rfl,by decide⟩
theorem cloneModel_any (A:Option Addr) (n c:Nat) (l:List (List BlkD)) (w:World) (S:Nat → Prop) (hS:∀ b,S b → b < w.heap.size) (h:Sl tModel w S A n c l) (hn:n≤100000) :
  Calls Tryz.prog 39 #[.slice A n c] w fun e w'=>∃ v,e=.returned v∧Own tModel w' S w.heap.size 41 v n l∧Below w.heap.size w w':=by
 cases A with
 | none =>
  have hc:=h.nil_ rfl
  have hm:=h.cap_le
  obtain rfl:c=0:=hc
  obtain rfl:n=0:=by omega
  obtain rfl:l=[]:=List.length_eq_zero_iff.1 h.n_eq
  clear h
  have q0:=fun w=>Lib.run_eql_slice_nil (P:=Tryz.prog) w 24 41 none 0 0 0 0 Tryz.underlying24
  simp only [Option.isNone_none] at q0
  go_enter Tryz.func39,Tryz.ntmps39
  go_wp2_with fail
  go_ret
  exact ⟨_,rfl,Own.nil _ _ _ _ _,Below.refl _ _⟩
 | some ad =>
  have H:=zH h
  clear h
  have q0:=fun w=>Lib.run_eql_slice_nil (P:=Tryz.prog) w 24 41 (some ad) n c 0 0 Tryz.underlying24
  simp only [Option.isNone_some] at q0
  go_enter Tryz.func39,Tryz.ntmps39
  have k0:Below w.heap.size w (w.alloc (.cells #[] 41)):=(Below.refl _ _).alloc (Nat.le_refl _) _
  have s0:=H.out.below k0 hS
  go_wp2_with (at_builtin;refine wpList_xrows (t:=tModel) (S:=S) (S':=S) (base:=w.heap.size) rfl _ _ rfl ei_modelC rfl (Own.lit (Nat.le_refl _)) rfl s0 (fun _ h=>h) (by unfold maxLen;omega) (by omega) k0.size (fun b h=>⟨Nat.lt_of_lt_of_le (hS b h) k0.size,fun e=>absurd (Option.some.inj e) (Nat.ne_of_lt (hS b h))⟩) ?_;intro v' w' o' g' a')
  go_ret
  rw [List.nil_append,Nat.zero_add] at o'
  exact ⟨_,rfl,o',k0.grown g' k0.size (fun k h=>Nat.le_of_eq (Option.some.inj h))⟩
theorem ei_blockC:EI Tryz.prog 39 49 (.agg #[.slice none 0 0,.bool false,.slice none 0 0,.slice none 0 0,.int .i32 0]) 5 88:=⟨Tryz.underlying39,by kernel_rfl,rfl,by decide⟩
theorem cloneBlock_any (A:Option Addr) (n c:Nat) (l:List BlkD) (w:World) (S:Nat → Prop) (hS:∀ b,S b → b < w.heap.size) (h:Sl tBlk w S A n c l) (hn:n≤100000) :
  Calls Tryz.prog 40 #[.slice A n c] w fun e w'=>∃ v,e=.returned v∧Own tBlk w' S w.heap.size 49 v n l∧Below w.heap.size w w':=by
 cases A with
 | none =>
  have hc:=h.nil_ rfl
  have hm:=h.cap_le
  obtain rfl:c=0:=hc
  obtain rfl:n=0:=by omega
  obtain rfl:l=[]:=List.length_eq_zero_iff.1 h.n_eq
  clear h
  have q0:=fun w=>Lib.run_eql_slice_nil (P:=Tryz.prog) w 39 49 none 0 0 0 0 Tryz.underlying39
  simp only [Option.isNone_none] at q0
  go_enter Tryz.func40,Tryz.ntmps40
  go_wp2_with fail
  go_ret
  exact ⟨_,rfl,Own.nil _ _ _ _ _,Below.refl _ _⟩
 | some ad =>
  have H:=zH h
  clear h
  have q0:=fun w=>Lib.run_eql_slice_nil (P:=Tryz.prog) w 39 49 (some ad) n c 0 0 Tryz.underlying39
  simp only [Option.isNone_some] at q0
  go_enter Tryz.func40,Tryz.ntmps40
  have k0:Below w.heap.size w (w.alloc (.cells #[] 49)):=(Below.refl _ _).alloc (Nat.le_refl _) _
  have s0:=H.out.below k0 hS
  go_wp2_with (at_builtin;refine wpList_xrows (t:=tBlk) (S:=S) (S':=S) (base:=w.heap.size) rfl _ _ rfl ei_blockC rfl (Own.lit (Nat.le_refl _)) rfl s0 (fun _ h=>h) (by unfold maxLen;omega) (by omega) k0.size (fun b h=>⟨Nat.lt_of_lt_of_le (hS b h) k0.size,fun e=>absurd (Option.some.inj e) (Nat.ne_of_lt (hS b h))⟩) ?_;intro v' w' o' g' a')
  go_ret
  rw [List.nil_append,Nat.zero_add] at o'
  exact ⟨_,rfl,o',k0.grown g' k0.size (fun k h=>Nat.le_of_eq (Option.some.inj h))⟩
theorem ei_nodeC:EI Tryz.prog 43 87 (.agg (nN 0 0 0 0 0 0 0 0 0 none 0 0 none 0 0 0 0 0 0 0 0 0 0)) 19 168:=⟨Tryz.underlying43,by kernel_rfl,rfl,by decide⟩
theorem cloneNode_any (A:Option Addr) (n c:Nat) (l:List Node) (w:World) (S:Nat → Prop) (hS:∀ b,S b → b < w.heap.size) (h:Sl tNode w S A n c l) (hn:n≤100000) :
  Calls Tryz.prog 65 #[.slice A n c] w fun e w'=>∃ v,e=.returned v∧Own tNode w' S w.heap.size 87 v n l∧Below w.heap.size w w':=by
 cases A with
 | none =>
  have hc:=h.nil_ rfl
  have hm:=h.cap_le
  obtain rfl:c=0:=hc
  obtain rfl:n=0:=by omega
  obtain rfl:l=[]:=List.length_eq_zero_iff.1 h.n_eq
  clear h
  have q0:=fun w=>Lib.run_eql_slice_nil (P:=Tryz.prog) w 43 87 none 0 0 0 0 Tryz.underlying43
  simp only [Option.isNone_none] at q0
  go_enter Tryz.func65,Tryz.ntmps65
  go_wp2_with fail
  go_ret
  exact ⟨_,rfl,Own.nil _ _ _ _ _,Below.refl _ _⟩
 | some ad =>
  have H:=zH h
  clear h
  have q0:=fun w=>Lib.run_eql_slice_nil (P:=Tryz.prog) w 43 87 (some ad) n c 0 0 Tryz.underlying43
  simp only [Option.isNone_some] at q0
  go_enter Tryz.func65,Tryz.ntmps65
  have k0:Below w.heap.size w (w.alloc (.cells #[] 87)):=(Below.refl _ _).alloc (Nat.le_refl _) _
  have s0:=H.out.below k0 hS
  go_wp2_with (at_builtin;refine wpList_xrows (t:=tNode) (S:=S) (S':=S) (base:=w.heap.size) rfl _ _ rfl ei_nodeC rfl (Own.lit (Nat.le_refl _)) rfl s0 (fun _ h=>h) (by unfold maxLen;omega) (by omega) k0.size (fun b h=>⟨Nat.lt_of_lt_of_le (hS b h) k0.size,fun e=>absurd (Option.some.inj e) (Nat.ne_of_lt (hS b h))⟩) ?_;intro v' w' o' g' a')
  go_ret
  rw [List.nil_append,Nat.zero_add] at o'
  exact ⟨_,rfl,o',k0.grown g' k0.size (fun k h=>Nat.le_of_eq (Option.some.inj h))⟩
def toldN (nw nb:Nat) (need:Int):Bool:=decide (0 < nw) || (decide (0 < nb) || need != 0)
theorem bare_any (W:Option Addr) (nw cw:Nat) (B:Option Addr) (nb cb:Nat) (need:Int) (w:World) :
  Calls Tryz.prog 134 #[.agg #[.slice W nw cw,.slice B nb cb,.int .i32 need]] w fun e w'=>e=.returned (.bool (!toldN nw nb need))∧Below w.heap.size w w':=by
 have H:=zH (Far.refl w)
 obtain ⟨w1,hw_w1,B1,k1⟩:=nB w #[.slice W nw cw,.slice B nb cb,.int .i32 need] 47
 replace H:=zN k1 H B1
 have cA:=fun i=>H.out.2.cell i
 clear B1 k1
 have HV:=zH (show toldN nw nb need=(decide (0 < nw) || (decide (0 < nb) || need != 0)) from rfl)
 obtain ⟨r,hr⟩:∃ r,toldN nw nb need=r:=⟨_,rfl⟩
 rw [hr] at HV
 rw [hr]
 clear hr
 by_cases c1:nw=0
 ·obtain rfl:=c1
  by_cases c2:nb=0
  ·obtain rfl:=c2
   have RV:=zH (show r=(need != 0) by rw [HV.out];rfl)
   clear HV
   by_cases c3:need=0
   ·obtain rfl:=c3
    go_enter Tryz.func134,Tryz.ntmps134
    go_wp2_with fail
    go_ret
    exact ⟨by rw [RV.out];rfl,H.out.1.out⟩
   ·have t3:(need == 0)=false:=by simpa using c3
    have R2:=zH (show r=true by rw [RV.out];simpa using c3)
    clear c3 RV
    go_enter Tryz.func134,Tryz.ntmps134
    go_wp2_with fail
    go_ret
    exact ⟨by rw [R2.out];rfl,H.out.1.out⟩
  ·have t2:((nb:Int) == 0)=false:=by simp;omega
   have R2:=zH (show r=true by rw [HV.out,decide_eq_true (p:=0 < nb) (by omega)];simp)
   clear c2 HV
   go_enter Tryz.func134,Tryz.ntmps134
   go_wp2_with fail
   go_ret
   exact ⟨by rw [R2.out];rfl,H.out.1.out⟩
 ·have t2:((nw:Int) == 0)=false:=by simp;omega
  have R2:=zH (show r=true by rw [HV.out,decide_eq_true (p:=0 < nw) (by omega)];simp)
  clear c1 HV
  go_enter Tryz.func134,Tryz.ntmps134
  go_wp2_with fail
  go_ret
  exact ⟨by rw [R2.out];rfl,H.out.1.out⟩
theorem checkI_w {m:Int} {nw nb:Nat} {need cl:Int} (hm:0≤m) (h:checkI m nw nb need cl=0):1≤nw∧nw≤16384∧nb≤16:=by
 unfold checkI at h
 split at h
 ·cases h
 split at h
 ·cases h
 split at h
 ·cases h
 rename_i c1 c2 c3
 have h1:(nw:Int)=cl*m:=Classical.byContradiction fun q=>c3 (.inl q)
 have h2:1*1≤cl*m:=Int.mul_le_mul (by omega) (by omega) (by omega) (by omega)
 have h3:(nb:Int)=cl:=Classical.byContradiction fun q=>c3 (.inr (.inr q))
 refine ⟨by omega,by omega,by omega⟩
theorem exit_any (b:BlkD) (L:Option Addr) (n cn:Nat) (W:Option Addr) (nw cw:Nat) (B:Option Addr) (nb cb:Nat) (o:Sh3) (r:Int × Int) (cl:Int) (last:Bool) (w:World)
  (hb:BlkAt b L n cn W nw cw B nb cb (blo w.heap.size) w) (ho:InK .i64 o.1∧InK .i64 o.2.1∧InK .i64 o.2.2) (hr:InK .i8 r.1∧InK .i8 r.2) (hcl:InK .i64 cl) :
  Calls Tryz.prog 103 #[.agg #[.slice L n cn,.bool b.exit,.slice W nw cw,.slice B nb cb,.int .i32 b.head.need],.agg (sN o.1 o.2.1 o.2.2),.agg #[.int .i8 r.1,.int .i8 r.2],.int .i64 cl,.bool last] w
   fun e w'=>e=.returned (.int .i64 (exitV b o r cl last))∧Below w.heap.size w w':=by
 have HV:=zH (show exitV b o r cl last=if b.exit=false then (if last=true ∨ toldN nw nb b.head.need=true then 11 else 0)
  else if checkI (elems o.1 o.2.1 o.2.2) nw nb b.head.need cl ≠ 0 then checkI (elems o.1 o.2.1 o.2.2) nw nb b.head.need cl else headR b.head.w b.head.bias r.1 r.2 by
   unfold exitV toldH toldN;rw [hb.hw.n_eq,hb.hb.n_eq])
 have BA:=zH (fun w=>bare_any W nw cw B nb cb b.head.need w)
 have CK:=zH (fun w=>verdCheck_any o.1 o.2.1 o.2.2 W nw cw B nb cb b.head.need cl w ho.1 ho.2.1 ho.2.2 (Nat.le_trans hb.hw.cap_le hb.hw.max_le) (Nat.le_trans hb.hb.cap_le hb.hb.max_le) hcl)
 have CW:=zH (fun h=>checkI_w (nw:=nw) (nb:=nb) (need:=b.head.need) (cl:=cl) (elems_range o.1 o.2.1 o.2.2).1 h)
 have GH:=zH (fun w hw hb m1 m2 h1=>guardHead_any W nw cw b.head.w B nb cb b.head.bias b.head.need r.1 r.2 w hw hb hr.1 hr.2 m1 m2 h1)
 have HW:=zH (Old.now hb.hw)
 have HB:=zH (Old.now hb.hb)
 have H:=zH (Far.refl w)
 obtain ⟨x,hx⟩:∃ x,exitV b o r cl last=x:=⟨_,rfl⟩
 obtain ⟨td,htd⟩:∃ x,toldN nw nb b.head.need=x:=⟨_,rfl⟩
 obtain ⟨ck,hck⟩:∃ x,checkI (elems o.1 o.2.1 o.2.2) nw nb b.head.need cl=x:=⟨_,rfl⟩
 obtain ⟨gh,hgh⟩:∃ x,headR b.head.w b.head.bias r.1 r.2=x:=⟨_,rfl⟩
 obtain ⟨ex,hex⟩:∃ x,b.exit=x:=⟨_,rfl⟩
 obtain ⟨need,hnd⟩:∃ x,b.head.need=x:=⟨_,rfl⟩
 rw [hx,htd,hck,hgh,hex] at HV
 simp only [htd] at BA
 simp only [hck] at CK CW
 simp only [hgh] at GH
 rw [hx,hex,hnd]
 simp only [hnd] at BA CK GH
 obtain ⟨o1,o2,o3⟩:=o
 obtain ⟨r1,r2⟩:=r
 simp only at CK GH
 clear hb ho hr hcl hx htd hck hgh hex hnd
 obtain ⟨w1,hw_w1,B1,k1⟩:=nB w #[.slice L n cn,.bool ex,.slice W nw cw,.slice B nb cb,.int .i32 need] 49
 replace H:=zN k1 H B1
 clear B1 k1
 obtain ⟨w2,hw_w2,B2,k2⟩:=nB w1 (sN o1 o2 o3) 23
 replace H:=zN k2 H B2
 clear B2 k2
 obtain ⟨w3,hw_w3,B3,k3⟩:=nB w2 #[.int .i8 r1,.int .i8 r2] 196
 replace H:=zN k3 H B3
 clear B3 k3
 have cA:=fun i=>H.out.1.1.2.cell i
 cases ex with
 | false =>
  replace HV:=zH (show x=if last=true ∨ td=true then 11 else 0 from HV.out)
  cases last with
  | true =>
   go_enter Tryz.func103,Tryz.ntmps103
   go_wp2_with fail
   go_ret
   exact ⟨by rw [HV.out];rfl,H.out.1.1.1.out⟩
  | false =>
   cases td with
   | true =>
    go_enter Tryz.func103,Tryz.ntmps103
    go_wp2_with (go_at_call 134;refine (BA.out _).mono ?_;rintro e w5 ⟨rfl,hb⟩;replace H:=zF hb H;clear hb cA)
    go_ret
    exact ⟨by rw [HV.out];rfl,H.out.1.1.1.out⟩
   | false =>
    go_enter Tryz.func103,Tryz.ntmps103
    go_wp2_with (go_at_call 134;refine (BA.out _).mono ?_;rintro e w5 ⟨rfl,hb⟩;replace H:=zF hb H;clear hb cA;have cA:=fun i=>H.out.1.1.2.cell i)
    go_ret
    exact ⟨by rw [HV.out];rfl,H.out.1.1.1.out⟩
 | true =>
  replace HV:=zH (show x=if ck ≠ 0 then ck else gh from HV.out)
  cases last
  all_goals
   go_enter Tryz.func103,Tryz.ntmps103
   go_wp2_with (first|(refine lB 23 (.tmp 6) w1.heap.size H.out.1.2 Tryz.underlying23 ?_))
   refine (CK.out _).mono ?_
   rintro e w5 ⟨rfl,hb⟩
   replace H:=zF hb H
   clear hb cA
   have cA:=fun i=>H.out.1.1.2.cell i
   by_cases c:ck=0
   ·subst c
    obtain ⟨q1,q2,q3⟩:=CW.out rfl
    go_wp2_with (first|(refine lB 196 (.tmp 7) w2.heap.size H.out.2 Tryz.underlying196 ?_))
    refine (GH.out _ (HW.out.fut H.out.1.1.1.out).all (HB.out.fut H.out.1.1.1.out).all q2 (by omega) q1).mono ?_
    rintro e w6 ⟨rfl,hb⟩
    replace H:=zF hb H
    clear hb cA
    go_wp2_with fail
    go_ret
    exact ⟨by rw [HV.out];rfl,H.out.1.1.1.out⟩
   ·have t1:(ck != 0)=true:=by simpa using c
    rw [if_pos c] at HV
    clear c
    go_wp2_with fail
    go_ret
    exact ⟨by rw [HV.out] <;> rfl,H.out.1.1.1.out⟩
theorem runG_ok {α:Type} {f:Node → List α → α × Int} {l:List Node} {a:α} (k:Nat):∀ {out:List α},runG f l a k=.on out → out.length=k+1:=by
 induction k with
 | zero=>intro out h;cases h;rfl
 | succ k ih =>
  intro out h
  unfold runG at h
  cases hr:runG f l a k with
  | bad i e=>rw [hr] at h;cases h
  | on o =>
   rw [hr] at h
   simp only at h
   split at h
   ·cases h
   ·cases h;simp [ih hr]
theorem runG_err {α:Type} {f:Node → List α → α × Int} {l:List Node} {a:α} (k:Nat):∀ {i:Nat} {e:Int},runG f l a k=.bad i e → e ≠ 0:=by
 induction k with
 | zero=>intro i e h;cases h
 | succ k ih =>
  intro i e h
  unfold runG at h
  cases hr:runG f l a k with
  | bad i' e'=>rw [hr] at h;cases h;exact ih hr
  | on o =>
   rw [hr] at h
   simp only at h
   split at h
   ·rename_i c;cases h;exact c
   ·cases h
theorem flow_len {l:List Node} {a:Int × Int} (h:(flowR l a).2.2=0):(flowR l a).1.length=l.length+1:=by
 unfold flowR at *
 by_cases c1:l.length=0
 ·rw [if_pos c1] at h;cases h
 by_cases c2:8 < l.length
 ·rw [if_neg c1,if_pos c2] at h;cases h
 by_cases c3:a.2 < a.1
 ·rw [if_neg c1,if_neg c2,if_pos c3] at h;cases h
 rw [if_neg c1,if_neg c2,if_neg c3] at h ⊢
 cases hr:runG stepR l a l.length with
 | on out=>exact runG_ok _ hr
 | bad i e=>rw [hr] at h;exact absurd h (runG_err _ hr)
theorem shapes_len {l:List Node} {s:Sh3} (h:(shapesV l s).2.2=0):(shapesV l s).1.length=l.length+1 :=
 (shapesV_ok (l:=l) (s:=s) (sl:=(shapesV l s).1) (p:=(shapesV l s).2.1) (by rw [← h])).len
theorem getD_at {α:Type} {l:List α} {i:Nat} {x d:α} (h:l[i]?=some x):l.getD i d=x:=by rw [List.getD_eq_getElem?_getD,h];rfl
theorem shape_w {h v c h2 v2 c2:Int} {d:Node} (e:(shapeV h v c h2 v2 c2 d).2=0) (hs:sumsK d.kind=true):1≤d.w.length:=by
 unfold sumsK at hs
 have hs:d.kind=1 ∨ d.kind=2 ∨ d.kind=3:=by simpa using hs
 unfold shapeV at e
 rcases hs with k|k|k
 ·rw [if_pos k] at e
  unfold convV fitV at e
  split at e
  ·rename_i c;exact absurd e c
  split at e
  ·cases e
  rename_i c1 c2
  obtain ⟨k1,-,o1,-,q1,-⟩:=slideV_ok (Decidable.not_not.1 c1)
  have h1:=Int.mul_le_mul (Int.mul_le_mul (Int.mul_le_mul o1 k1 (by omega) (by omega)) k1 (by omega) (Int.mul_nonneg (by omega) (by omega))) q1 (by omega) (Int.mul_nonneg (Int.mul_nonneg (by omega) (by omega)) (by omega))
  have h2:(d.w.length:Int)=d.out*d.k*d.k*c:=Classical.byContradiction fun q=>c2 (.inl q)
  omega
 ·rw [if_neg (by omega),if_pos k] at e
  unfold depthV fitV at e
  split at e
  ·rename_i c;exact absurd e c
  split at e
  ·cases e
  rename_i c1 c2
  obtain ⟨k1,-,o1,-,q1,-⟩:=slideV_ok (Decidable.not_not.1 c1)
  have h1:=Int.mul_le_mul (Int.mul_le_mul q1 k1 (by omega) (by omega)) k1 (by omega) (Int.mul_nonneg (by omega) (by omega))
  have h2:(d.w.length:Int)=c*d.k*d.k:=Classical.byContradiction fun q=>c2 (.inl q)
  omega
 ·rw [if_neg (by omega),if_neg (by omega),if_pos k] at e
  unfold denseV at e
  split at e
  ·cases e
  split at e
  ·cases e
  rename_i c1 c2
  have b1:=elems_bd (h:=1) (v:=1) (c:=d.out) (fun q=>c1 (.inr q))
  have b2:=elems_range h v c
  have b3:elems h v c ≠ 0:=fun q=>c1 (.inl q)
  have h1:=Int.mul_le_mul (a:=1) (b:=1) (c:=d.out) (d:=elems h v c) (by omega) (by omega) (by omega) (by omega)
  have h2:(d.w.length:Int)=d.out*elems h v c:=Classical.byContradiction fun q=>c2 (.inl q)
  omega
theorem next_w {d:Node} {l:List Sh3} (e:(nextV d l).2=0) (hs:sumsK d.kind=true):1≤d.w.length:=by
 unfold nextV at e
 split at e
 ·rename_i c;exact absurd e c
 split at e
 ·cases e
 exact shape_w e hs
theorem runS_w {l:List Node} {s:Sh3} (k:Nat):∀ {out:List Sh3},runS l s k=.on out → ∀ i,i < k → ∃ o,(nextV (l.getD i noNode) o).2=0:=by
 induction k with
 | zero=>intro out _ i hi;exact absurd hi (Nat.not_lt_zero _)
 | succ k ih =>
  intro out h i hi
  unfold runS at h
  cases hr:runS l s k with
  | bad i e=>rw [hr] at h;cases h
  | on o =>
   rw [hr] at h
   simp only at h
   split at h
   ·cases h
   ·rename_i c
    by_cases hik:i < k
    ·exact ih hr i hik
    ·obtain rfl:i=k:=by omega
     exact ⟨o,Decidable.not_not.1 c⟩
theorem shapes_w {l:List Node} {s:Sh3} (h:(shapesV l s).2.2=0):∀ d ∈ l,sumsK d.kind=true → 1≤d.w.length:=by
 intro d hd hs
 obtain ⟨i,hi⟩:=List.getElem?_of_mem hd
 have hil:=(List.getElem?_eq_some_iff.1 hi).1
 unfold shapesV at h
 split at h
 ·cases h
 split at h
 ·cases h
 split at h
 ·cases h
 cases hr:runS l s l.length with
 | bad j e=>rw [hr] at h;exact absurd h (runS_err _ hr)
 | on out =>
  obtain ⟨o,ho⟩:=runS_w _ hr i hil
  rw [getD_at hi] at ho
  exact next_w ho hs
theorem vblock_any (b:BlkD) (L:Option Addr) (n cn:Nat) (W:Option Addr) (nw cw:Nat) (B:Option Addr) (nb cb:Nat) (s:Sh3) (cl:Int) (last:Bool) (w:World)
  (hb:BlkAt b L n cn W nw cw B nb cb (blo w.heap.size) w) (hs:InK .i64 s.1∧InK .i64 s.2.1∧InK .i64 s.2.2) (hcl:InK .i64 cl) (hf:fewB b) :
  Calls Tryz.prog 64 #[.agg #[.slice L n cn,.bool b.exit,.slice W nw cw,.slice B nb cb,.int .i32 b.head.need],.agg (sN s.1 s.2.1 s.2.2),.int .i64 cl,.bool last] w
   fun e w'=>e=.returned (.tuple #[.int .i64 (blockV b s cl last).1,.int .i64 (blockV b s cl last).2])∧Below w.heap.size w w':=by
 have HN:=zH (Old.now hb.nodes)
 have HB:=zH hb
 have LN:=zH hb.nodes.n_eq
 have SP:=zH (fun w h=>shapes_any L n cn b.nodes s.1 s.2.1 s.2.2 w h hs.1 hs.2.1 hs.2.2 hf.1.2)
 have FL:=zH (fun w h h1=>flow_any L n cn b.nodes (-128) 127 w h (by decide) (by decide) hf.1.2 h1)
 have EX:=zH (fun o r w hb ho hr=>exit_any b L n cn W nw cw B nb cb o r cl last w hb ho hr hcl)
 have SW:=zH (shapes_w (l:=b.nodes) (s:=s))
 have SL:=zH (shapes_len (l:=b.nodes) (s:=s))
 have FLL:=zH (flow_len (l:=b.nodes) (a:=(-128,127)))
 have HV:=zH (show blockV b s cl last=if (shapesV b.nodes s).2.2 ≠ 0 then (shapesV b.nodes s).2 else if (flowR b.nodes (-128,127)).2.2 ≠ 0 then (flowR b.nodes (-128,127)).2
  else if exitV b ((shapesV b.nodes s).1.getD b.nodes.length (0,0,0)) ((flowR b.nodes (-128,127)).1.getD b.nodes.length (0,0)) cl last ≠ 0 then (-1,exitV b ((shapesV b.nodes s).1.getD b.nodes.length (0,0,0)) ((flowR b.nodes (-128,127)).1.getD b.nodes.length (0,0)) cl last)
  else ((b.nodes.length:Int),0) from rfl)
 obtain ⟨r,hr⟩:∃ x,blockV b s cl last=x:=⟨_,rfl⟩
 obtain ⟨⟨sl,sp,se⟩,hsv⟩:∃ x,shapesV b.nodes s=x:=⟨_,rfl⟩
 obtain ⟨⟨fl,fp,fe⟩,hfv⟩:∃ x,flowR b.nodes (-128,127)=x:=⟨_,rfl⟩
 obtain ⟨s1,s2,s3⟩:=s
 simp only at SP
 rw [hr,hsv,hfv] at HV
 simp only [LN.out] at HV
 rw [hr]
 simp only [hsv] at SP SW SL
 simp only [hfv] at FL FLL
 rw [LN.out] at SL FLL
 unfold RetShapes at SP
 unfold RetFlow at FL
 simp only at SP FL
 obtain ⟨need,hnd⟩:∃ x,b.head.need=x:=⟨_,rfl⟩
 obtain ⟨ex,hex⟩:∃ x,b.exit=x:=⟨_,rfl⟩
 rw [hnd,hex]
 simp only [hnd,hex] at EX
 have H:=zH (Far.refl w)
 have mx:n≤9223372036854775807:=Nat.le_trans hb.nodes.cap_le hb.nodes.max_le
 clear hb hs hcl hr hsv hfv hnd hex hf
 obtain ⟨w1,hw_w1,B1,k1⟩:=nB w #[.slice L n cn,.bool ex,.slice W nw cw,.slice B nb cb,.int .i32 need] 49
 replace H:=zN k1 H B1
 clear B1 k1
 obtain ⟨w2,hw_w2,B2,k2⟩:=nB w1 (sN s1 s2 s3) 23
 replace H:=zN k2 H B2
 clear B2 k2
 have cA:=fun i=>H.out.1.2.cell i
 go_enter Tryz.func64,Tryz.ntmps64
 go_wp2_with (refine lB 23 (.tmp 5) w1.heap.size H.out.2 Tryz.underlying23 ?_)
 refine (SP.out _ (HN.out.fut H.out.1.1.out).all).mono ?_
 rintro e w3 ⟨A3,m3,c3,rfl,q3,hb⟩
 have N3:=zH (New.of q3 H.out.1.1)
 have K3:=zH q3.n_eq
 replace H:=zN hb H N3
 clear hb cA q3 N3
 have cA:=fun i=>H.out.1.1.2.cell i
 by_cases e1:se=0
 rotate_left
 ·have t1:(se != 0)=true:=by simpa using e1
  rw [if_pos e1] at HV
  clear e1
  go_wp2_with fail
  go_ret2
  exact ⟨by rw [HV.out] <;> rfl,H.out.1.1.1.out⟩
 subst e1
 rw [if_neg (by decide)] at HV
 go_wp2_with fail
 refine (FL.out _ (HN.out.fut H.out.1.1.1.out).all (SW.out (by trivial))).mono ?_
 rintro e w4 ⟨A4,m4,c4,rfl,q4,hb⟩
 have N4:=zH (New.of q4 H.out.1.1.1)
 have K4:=zH q4.n_eq
 replace H:=zN hb H N4
 clear hb cA q4 N4
 have cA:=fun i=>H.out.1.1.1.2.cell i
 by_cases e2:fe=0
 rotate_left
 ·have t2:(fe != 0)=true:=by simpa using e2
  rw [if_pos e2] at HV
  clear e2
  go_wp2_with fail
  go_ret2
  exact ⟨by rw [HV.out] <;> rfl,H.out.1.1.1.1.out⟩
 subst e2
 rw [if_neg (by decide)] at HV
 have M3:m3=n+1:=by rw [← K3.out];exact SL.out (by trivial)
 have M4:m4=n+1:=by rw [← K4.out];exact FLL.out (by trivial)
 have i3:(n:Int) < (m3:Int):=by omega
 have i4:(n:Int) < (m4:Int):=by omega
 obtain ⟨b3,o3,rfl,-,-,hx1,hx2,hx3,-,r3⟩:=H.out.1.2.old.shape_at n (by omega)
 obtain ⟨y,b4,o4,hy,rfl,-,-,hy1,hy2,r4⟩:=H.out.2.old.rg_at n (by omega)
 rw [getD_at hy] at HV
 obtain ⟨⟨x1,x2,x3⟩,hx⟩:∃ x,sl.getD n (0,0,0)=x:=⟨_,rfl⟩
 rw [hx] at HV r3 hx1 hx2 hx3
 obtain ⟨y1,y2⟩:=y
 replace EX:=zH (fun w hb=>EX.out (x1,x2,x3) (y1,y2) w hb ⟨hx1,hx2,hx3⟩ ⟨hy1,hy2⟩)
 obtain ⟨g,hg⟩:∃ g,exitV b (x1,x2,x3) (y1,y2) cl last=g:=⟨_,rfl⟩
 simp only [hg] at EX
 rw [hg] at HV
 have R0:=zH (fun z:Ext w4=>range_blk (off:=0) (vs:=[.slice L n cn,.bool ex,.slice W nw cw,.slice B nb cb,.int .i32 need]) (H.out.1.1.1.2.ext z) rfl)
 have R3:=zH (fun z:Ext w4=>rangeF r3 z.2)
 have R4:=zH (fun z:Ext w4=>rangeF r4 z.2)
 have c0:∀ z:Ext w4,z.1.cell? ⟨w.heap.size,0,none⟩=some (.slice L n cn):=fun z=>(H.out.1.1.1.2.ext z).cell 0
 have E1:=zH (fun z:Ext w4=>calls_ext z (EX.out z.1 ((HB.out.fut H.out.1.1.1.1.out).fut z.2)))
 clear M3 M4 r3 r4 hx hy hx1 hx2 hx3 hy1 hy2 hg cA EX
 go_upto_region 7 with fail
 refine wp_region_ext w4 (by kernel_rfl) (by kernel_rfl) (Below.refl _ _) ?_
 refine wpQuiet_load_mid (by kernel_rfl) 49 (.tmp 4) rfl w.heap.size 0 rfl _ _ (by rintro _ ⟨z,rfl⟩;exact R0.out z) Tryz.underlying49 rfl (by kernel_rfl) ?_
 simp only [pX]
 go_big_quiet_step (fail)
 go_big_quiet_step (fail)
 go_big_quiet_step (fail)
 go_big_quiet_step (fail)
 go_big_quiet_step (fail)
 refine wpQuiet_load_mid (by kernel_rfl) 23 (.tmp 44) rfl b3 (o3+n*3) rfl _ _ (by rintro _ ⟨z,rfl⟩;exact R3.out z) Tryz.underlying23 rfl (by kernel_rfl) ?_
 simp only [pX]
 go_big_quiet_step (fail)
 go_big_quiet_step (fail)
 go_big_quiet_step (fail)
 go_big_quiet_step (fail)
 go_big_quiet_step (fail)
 refine wpQuiet_load_mid (by kernel_rfl) 196 (.tmp 50) rfl b4 (o4+n*2) rfl _ _ (by rintro _ ⟨z,rfl⟩;exact R4.out z) Tryz.underlying196 rfl (by kernel_rfl) ?_
 simp only [pX]
 repeat (go_big_quiet_step ((with_reducible exact E1.out _)))
 refine wpQuiet_nil ?_
 rintro wa ⟨⟨_,hb⟩,rfl⟩
 replace H:=zF hb H
 clear hb c0
 have cA:=fun i=>H.out.1.1.1.2.cell i
 by_cases e3:g=0
 ·subst e3
  rw [if_neg (by decide)] at HV
  go_wp2_with fail
  go_ret2
  exact ⟨by rw [HV.out] <;> rfl,H.out.1.1.1.1.out⟩
 ·have t3:(g != 0)=true:=by simpa using e3
  rw [if_pos e3] at HV
  clear e3
  go_wp2_with fail
  go_ret2
  exact ⟨by rw [HV.out] <;> rfl,H.out.1.1.1.1.out⟩
def elS (s:Sh3):Int:=elems s.1 s.2.1 s.2.2
def shN (d:Node) (x y:Sh3):ShE:=shapeV x.1 x.2.1 x.2.2 y.1 y.2.1 y.2.2 d
def costK (d:Node) (m:Int) (x:Sh3):Int :=
 if d.kind=1 then m*d.k*d.k*x.2.2 else if d.kind=2 ∨ d.kind=4 ∨ d.kind=5 then m*d.k*d.k else if d.kind=3 then m*elS x else m
def costN (d:Node) (x y:Sh3):Int:=if (shN d x y).2 ≠ 0 then 0 else costK d (elS (shN d x y).1) x
theorem elS_bd (s:Sh3):0≤elS s∧elS s≤1024:=elems_range _ _ _
theorem fitV_fst {x:ShE} {want out:Int} {d:Node} (h:(fitV x want out d).2=0):x.2=0:=by
 unfold fitV at h
 split at h
 ·rename_i c;exact absurd h c
 ·rename_i c;exact Decidable.not_not.1 c
theorem shN_k {d:Node} {x y:Sh3} (h:(shN d x y).2=0):((d.kind=1 ∨ d.kind=2 ∨ d.kind=4 ∨ d.kind=5) → 1≤d.k∧d.k≤5)∧(d.kind=1 → 1≤x.2.2∧x.2.2≤1024):=by
 unfold shN shapeV at h
 by_cases k1:d.kind=1
 ·rw [if_pos k1] at h
  obtain ⟨a,b,-,-,e,f⟩:=slideV_ok (fitV_fst h)
  exact ⟨fun _=>⟨a,b⟩,fun _=>⟨e,f⟩⟩
 rw [if_neg k1] at h
 by_cases k2:d.kind=2
 ·rw [if_pos k2] at h
  obtain ⟨a,b,-⟩:=slideV_ok (fitV_fst h)
  exact ⟨fun _=>⟨a,b⟩,fun q=>absurd q k1⟩
 rw [if_neg k2] at h
 by_cases k3:d.kind=3
 ·exact ⟨fun _=>by omega,fun q=>absurd q k1⟩
 rw [if_neg k3] at h
 by_cases k4:d.kind=4 ∨ d.kind=5
 ·rw [if_pos k4] at h
  obtain ⟨a,b,-⟩:=slideV_ok h
  exact ⟨fun _=>⟨a,b⟩,fun q=>absurd q k1⟩
 ·exact ⟨fun _=>by omega,fun q=>absurd q k1⟩
theorem mul_bd {a b m n:Int} (h1:0≤a) (h2:a≤m) (h3:0≤b) (h4:b≤n) (hm:0≤m):0≤a*b∧a*b≤m*n:=⟨Int.mul_nonneg h1 h3,Int.mul_le_mul h2 h4 h3 hm⟩
theorem costN_bd (d:Node) (x y:Sh3):0≤costN d x y∧costN d x y≤26214400:=by
 unfold costN
 split
 ·omega
 rename_i c
 obtain ⟨hk,hc⟩:=shN_k (Decidable.not_not.1 c)
 have hm:=elS_bd (shN d x y).1
 unfold costK
 split
 ·rename_i k1
  have:=hk (by omega)
  have q:=hc k1
  have b1:=mul_bd hm.1 hm.2 (b:=d.k) (n:=5) (by omega) (by omega) (by omega)
  have b2:=mul_bd b1.1 b1.2 (b:=d.k) (n:=5) (by omega) (by omega) (by omega)
  have b3:=mul_bd b2.1 b2.2 (b:=x.2.2) (n:=1024) (by omega) (by omega) (by omega)
  omega
 split
 ·rename_i k1
  have:=hk (by omega)
  have b1:=mul_bd hm.1 hm.2 (b:=d.k) (n:=5) (by omega) (by omega) (by omega)
  have b2:=mul_bd b1.1 b1.2 (b:=d.k) (n:=5) (by omega) (by omega) (by omega)
  omega
 split
 ·have e:=elS_bd x
  have b1:=mul_bd hm.1 hm.2 (b:=elS x) (n:=1024) (by omega) (by omega) (by omega)
  omega
 ·omega
def sumC (l:List Node) (sl:List Sh3):Nat → Int
 | 0=>1
 | k+1=>sumC l sl k+costN (l.getD k noNode) (sl.getD (l.getD k noNode).a.toNat (0,0,0)) (sl.getD (secondV (l.getD k noNode)).toNat (0,0,0))
theorem sumC_bd (l:List Node) (sl:List Sh3):∀ k,1≤sumC l sl k∧sumC l sl k≤1+k*26214400
 | 0=>by unfold sumC;omega
 | k+1=>by
  have h:=sumC_bd l sl k
  have:=costN_bd (l.getD k noNode) (sl.getD (l.getD k noNode).a.toNat (0,0,0)) (sl.getD (secondV (l.getD k noNode)).toNat (0,0,0))
  unfold sumC
  omega
theorem sumC_next {l:List Node} {sl:List Sh3} {k:Nat} {d:Node} (h:l[k]?=some d):sumC l sl (k+1)=sumC l sl k+costN d (sl.getD d.a.toNat (0,0,0)) (sl.getD (secondV d).toNat (0,0,0)):=by
 have e:l.getD k noNode=d:=getD_at h
 show sumC l sl k+costN (l.getD k noNode) _ _=_
 rw [e]
def exitC (b:BlkD) (out:Sh3) (cl:Int):Int:=if b.exit=true then min (max cl 0) 16*(elS out+1) else 0
def blockC (b:BlkD) (s:Sh3) (cl:Int):Int:=sumC b.nodes (shapesV b.nodes s).1 b.nodes.length+exitC b (outV b s) cl
def rowC (m:List BlkD) (s:Sh3) (cl:Int):List Int:=(List.range m.length).map fun i=>blockC (m.getD i noBlk) (inV m s i) cl
def tableC (u:Bun):List (List Int):=u.models.map fun m=>rowC m (u.h,u.v,u.c) u.cl
def insV (m:List BlkD) (s:Sh3):List Sh3:=(List.range (m.length+1)).map fun i=>inV m s i
def insU (u:Bun):List (List Sh3):=u.models.map fun m=>insV m (u.h,u.v,u.c)
theorem exitC_bd (b:BlkD) (out:Sh3) (cl:Int):0≤exitC b out cl∧exitC b out cl≤16400:=by
 unfold exitC
 split
 ·have e:=elS_bd out
  have:=mul_bd (a:=min (max cl 0) 16) (b:=elS out+1) (m:=16) (n:=1025) (by omega) (by omega) (by omega) (by omega) (by omega)
  omega
 ·omega
structure NodeOk (d:Node) (n:Nat):Prop where
 kind:1≤d.kind∧d.kind≤9
 a:0≤d.a∧d.a < n
 b:0≤secondV d∧secondV d < n
theorem runS_node {l:List Node} {s:Sh3} (k:Nat):∀ {out:List Sh3},runS l s k=.on out → ∀ i,i < k → NodeOk (l.getD i noNode) (i+1):=by
 induction k with
 | zero=>intro out _ i hi;exact absurd hi (Nat.not_lt_zero _)
 | succ k ih =>
  intro out h i hi
  unfold runS at h
  cases hr:runS l s k with
  | bad i e=>rw [hr] at h;cases h
  | on o =>
   rw [hr] at h
   simp only at h
   split at h
   ·cases h
   ·rename_i c
    by_cases hik:i < k
    ·exact ih hr i hik
    ·obtain rfl:i=k:=by omega
     have c:=Decidable.not_not.1 c
     have hl:=(runS_ok _ hr).len
     have ht:=nextV_good' c
     rw [hl] at ht
     obtain ⟨h1,h2,h3,h4⟩:=there_bd ht
     unfold nextV at c
     split at c
     ·rename_i q;exact absurd c q
     ·rename_i q
      exact ⟨check_kind (Decidable.not_not.1 q),⟨h1,by simpa using h2⟩,⟨h3,by simpa using h4⟩⟩
theorem shapes_node {l:List Node} {s:Sh3} (h:(shapesV l s).2.2=0) {i:Nat} {d:Node} (hd:l[i]?=some d):NodeOk d (l.length+1):=by
 have hil:=(List.getElem?_eq_some_iff.1 hd).1
 unfold shapesV at h
 split at h
 ·cases h
 split at h
 ·cases h
 split at h
 ·cases h
 cases hr:runS l s l.length with
 | bad j e=>rw [hr] at h;exact absurd h (runS_err _ hr)
 | on out =>
  have:=runS_node _ hr i hil
  rw [getD_at hd] at this
  exact ⟨this.kind,⟨this.a.1,by have:=this.a.2;omega⟩,⟨this.b.1,by have:=this.b.2;omega⟩⟩
theorem shapes_few {l:List Node} {s:Sh3} (h:(shapesV l s).2.2=0):1≤l.length∧l.length≤8:=by
 unfold shapesV at h
 split at h
 ·cases h
 split at h
 ·cases h
 split at h
 ·cases h
 omega
structure Vd where
 cls:Int
 margin:Int
 logits:List Int
 enough:Bool
structure Exit where
 model:Int
 block:Int
 steps:Int
 spent:Int
 v:Vd
structure Ans where
 id:Int
 model:Int
 block:Int
 cls:Int
 margin:Int
 logits:List Int
 spent:Int
 why:Int
 tick:Int
structure AnsIn (d:Ans):Prop where
 id:InK .i64 d.id
 model:InK .i64 d.model
 block:InK .i64 d.block
 cls:InK .i64 d.cls
 margin:InK .i64 d.margin
 spent:InK .i64 d.spent
 why:InK .i64 d.why
 tick:InK .i64 d.tick
abbrev tI:Ty Int:=tInt .i64
def tAns:Ty Ans:=tMap (fun (x:Int × Int × Int × Int × Int × List Int × Int × Int × Int)=>⟨x.1,x.2.1,x.2.2.1,x.2.2.2.1,x.2.2.2.2.1,x.2.2.2.2.2.1,x.2.2.2.2.2.2.1,x.2.2.2.2.2.2.2.1,x.2.2.2.2.2.2.2.2⟩)
 (tPair tI (tPair tI (tPair tI (tPair tI (tPair tI (tPair (tSlice (tInt .i32)) (tPair tI (tPair tI tI))))))))
theorem ans_open {w:World} {S:Nat → Prop} {cs:List Value} {d:Ans} (h:tAns.rep w S cs d) :
  ∃ A n cap,cs=[.int .i64 d.id,.int .i64 d.model,.int .i64 d.block,.int .i64 d.cls,.int .i64 d.margin,.slice A n cap,.int .i64 d.spent,.int .i64 d.why,.int .i64 d.tick]∧AnsIn d∧Sl (tInt .i32) w S A n cap d.logits:=by
 obtain ⟨⟨a,b,c,e,f,l,g,i,j⟩,rfl,_,_,rfl,⟨rfl,h1⟩,_,_,rfl,⟨rfl,h2⟩,_,_,rfl,⟨rfl,h3⟩,_,_,rfl,⟨rfl,h4⟩,_,_,rfl,⟨rfl,h5⟩,_,_,rfl,hs,_,_,rfl,⟨rfl,h6⟩,_,_,rfl,⟨rfl,h7⟩,rfl,h8⟩:=h
 obtain ⟨A,cap,rfl,hs'⟩:=tSlice_iff.1 hs
 exact ⟨A,_,cap,rfl,⟨h1,h2,h3,h4,h5,h6,h7,h8⟩,hs'⟩
/-! ### Numbers compared -/
end Go.Proofs.YtppcjcigekoipaaGreat
