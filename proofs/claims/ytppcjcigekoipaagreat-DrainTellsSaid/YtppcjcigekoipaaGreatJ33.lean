/-
  An exit, a block of its own (layer 35): bundle.copiedHead, copiedBlock.
-/
import Derived.Test.YtppcjcigekoipaaGreatJ32
set_option linter.unusedVariables false
set_option linter.unusedSimpArgs false
namespace Go.Proofs.YtppcjcigekoipaaGreat
open Go.RowKit Go.ChangeShapes Go.WideShapes
set_option maxRecDepth 100000
set_option maxHeartbeats 4000000
def RetHd (h:Hd) (nw nb:Nat) (w:World) (e:Ending) (w':World):Prop :=
 ∃ W c1 B c2,e=.returned (.agg #[.slice W nw c1,.slice B nb c2,.int .i32 h.need])∧Sl (tInt .i8) w' (bin w.heap.size w'.heap.size) W nw c1 h.w∧Sl (tInt .i32) w' (bin w.heap.size w'.heap.size) B nb c2 h.bias∧Below w.heap.size w w'
theorem copiedHead_any (h:Hd) (W:Option Addr) (nw cw:Nat) (B:Option Addr) (nb cb:Nat) (w:World) (hw:Sl (tInt .i8) w (blo w.heap.size) W nw cw h.w) (hb:Sl (tInt .i32) w (blo w.heap.size) B nb cb h.bias) (m1:nw≤4000) (m2:nb≤4000) :
  Calls Tryz.prog 68 #[.agg #[.slice W nw cw,.slice B nb cb,.int .i32 h.need]] w (RetHd h nw nb w):=by
 have C8:=zH (fun w q=>clone8_any W nw cw h.w w q (by omega))
 have C32:=zH (fun w q=>clone32_any B nb cb h.bias w q (by omega))
 have HW:=zH (Old.now hw)
 have HB:=zH (Old.now hb)
 have H:=zH (Far.refl w)
 obtain ⟨need,hn⟩:∃ x,h.need=x:=⟨_,rfl⟩
 have HN:=zH hn
 rw [hn]
 clear hw hb hn
 obtain ⟨w1,hw_w1,B1,k1⟩:=nB w #[.slice W nw cw,.slice B nb cb,.int .i32 need] 47
 replace H:=zN k1 H B1
 clear B1 k1
 obtain ⟨w2,hw_w2,B2,k2⟩:=nB w1 #[.slice none 0 0,.slice none 0 0,.int .i32 0] 47
 have H2:=zN k2 H B2
 clear B2 k2 H
 have l1:w.heap.size < w1.heap.size:=by rw [← hw_w1];simp
 have l0:w1.heap.size < w2.heap.size:=by rw [← hw_w2];simp
 go_enter Tryz.func68,Tryz.ntmps68
 go_upto_region 1 with fail
 clear hw_w1 hw_w2
 have H:=zD w2 H2
 clear H2
 refine wp_region_T (fun w'=>w'.cell? ⟨w.heap.size,0,none⟩=some (.slice W nw cw)∧w'.cell? ⟨w.heap.size,1,none⟩=some (.slice B nb cb)∧Below w2.heap.size w2 w') 7 (by kernel_rfl) ?_ (fun hS=>?_)
 ·exact ⟨H.out.1.2.cell 0,H.out.1.2.cell 1,(Below.refl _ _).drew⟩
 refine kT 0 rfl hS ?_
 try simp only [pX]
 refine kT 1 rfl hS ?_
 try simp only [pX]
 refine kT 3 rfl hS ?_
 try simp only [pX]
 refine kT 4 rfl hS ?_
 try simp only [pX]
 refine wpAnyT_one (i:=2) (by kernel_rfl) rfl rfl (fun K hK=>?_)
 go_simp
 refine (C8.out _ (HW.out.fut H.out.1.1.out).all).mono ?_;rintro e w3 ⟨X,m3,c1,rfl,q,hb⟩;have N1:=zH (show New w2 _ _ _ _ _ _ from New.of q ⟨(Below.refl _ _).drew⟩);have L1:=zH q.n_eq;replace H:=zN hb H N1;clear q N1
 refine hK.out _ _ ?_ (fun hS=>?_)
 ·exact ⟨(by first|exact cell_later hb hS.1|exact Blk.later hS.1 hb),(by first|exact cell_later hb hS.2.1|exact Blk.later hS.2.1 hb),(by first|exact below_later hb hS.2.2|exact grown_below hS.2.2 hb)⟩
 clear hK K
 try simp only [pX]
 refine kT 6 rfl hS ?_
 try simp only [pX]
 refine wpAnyT_one (i:=5) (by kernel_rfl) rfl rfl (fun K hK=>?_)
 go_simp
 refine (C32.out _ (HB.out.fut H.out.1.1.1.out).all).mono ?_;rintro e w4 ⟨Y,m4,c2,rfl,q,hb⟩;have N2:=zH (New.of q (Far.refl _));have z3:=H.out.1.1.2.lt;have z4:=H.out.1.2.lt;have L2:=zH q.n_eq;replace H:=zN hb H N2;clear q N2
 refine hK.out _ _ ?_ (fun hS=>?_)
 ·exact ⟨(by first|exact cell_later hb hS.1|exact Blk.later hS.1 hb),(by first|exact cell_later hb hS.2.1|exact Blk.later hS.2.1 hb),(by first|exact below_later hb hS.2.2|exact grown_below hS.2.2 hb)⟩
 clear hK K
 try simp only [pX]
 refine wpAnyT_tail _ _ rfl rfl (by kernel_rfl) ?_
 obtain rfl:m3=nw:=by rw [← L1.out];exact HW.out.out.n_eq
 obtain rfl:m4=nb:=by rw [← L2.out];exact HB.out.out.n_eq
 have hS2:=zH hS.2.2.size
 clear hS hb
 have NX:=zH (And.intro H.out.1.2 H.out.2)
 have y1:=H.out.1.1.1.1.size
 have y2:=H.out.1.1.2.lt
 replace H:=zH H.out.1.1
 have l3:=hS2.out
 go_wp2_with (first
  | (refine wpList_store_one rfl _ (.tmp 9) (.tmp 5) rfl w.heap.size 0 (.slice X m3 c1) rfl rfl rfl rfl _ _ #[.slice X m3 c1,.slice B m4 cb,.int .i32 need] H.out.1.2 (by simp) (by kernel_rfl) rfl ?_;intro w5 b5 g5;replace NX:=zA g5 NX;replace H:=zH (And.intro (And.intro (H.out.1.1.away g5 (Nat.le_refl _)) b5) (H.out.2.away g5 (by omega)));clear b5 g5)
  | (refine wpList_store_one rfl _ (.tmp 10) (.tmp 8) rfl w.heap.size 1 (.slice Y m4 c2) rfl rfl rfl rfl _ _ #[.slice X m3 c1,.slice Y m4 c2,.int .i32 need] H.out.1.2 (by simp) (by kernel_rfl) rfl ?_;intro w6 b6 g6;replace NX:=zA g6 NX;replace H:=zH (And.intro (And.intro (H.out.1.1.away g6 (Nat.le_refl _)) b6) (H.out.2.away g6 (by omega)));clear b6 g6)
  | (refine lB 47 (.tmp 1) w.heap.size H.out.1.2 Tryz.underlying47 ?_)
  | (refine sB 47 (.tmp 2) (.tmp 11) w1.heap.size #[.slice X m3 c1,.slice Y m4 c2,.int .i32 need] H.out.2 ?_;intro w7 b7 g7;replace NX:=zA g7 NX;have F7:=zA g7 (zH H.out.1.1);clear g7))
 refine ret_cell rfl b7 rfl Tryz.underlying47 (by kernel_rfl) rfl ?_
 exact ⟨X,c1,Y,c2,by rw [HN.out],NX.out.1.out.more (bin_more (by omega) (Nat.le_refl _)),NX.out.2.out.more (bin_more (by omega) (Nat.le_refl _)),F7.out.out⟩
def RetBlk (b:BlkD) (n nw nb:Nat) (w:World) (e:Ending) (w':World):Prop :=
 ∃ L c0 W c1 B c2,e=.returned (.agg #[.slice L n c0,.bool b.exit,.slice W nw c1,.slice B nb c2,.int .i32 b.head.need])∧BlkAt b L n c0 W nw c1 B nb c2 (bin w.heap.size w'.heap.size) w'∧Below w.heap.size w w'
theorem nodeRep {w:World} {S:Nat → Prop} {d:Node} {W:Option Addr} {nw cw:Nat} {B:Option Addr} {nb cb:Nat} (h:NodeIn d) (hw:Sl (tInt .i8) w S W nw cw d.w) (hb:Sl (tInt .i32) w S B nb cb d.bias):tNode.rep w S [.int .i64 d.kind,.int .i64 d.a,.int .i64 d.b,.int .i64 d.k,.int .i64 d.s,.int .i64 d.p,.int .i64 d.out,.int .i8 d.za,.int .i8 d.zb,.slice W nw cw,.slice B nb cb,.int .i32 d.qm,.int .i64 d.qs,.int .i8 d.qz,.int .i32 d.rm,.int .i64 d.rs,.int .i8 d.rz,.int .i8 d.lo,.int .i8 d.hi] d :=
 ⟨(d.kind,d.a,d.b,d.k,d.s,d.p,d.out,d.za,d.zb,d.w,d.bias,(d.qm,d.qs,d.qz),(d.rm,d.rs,d.rz),d.lo,d.hi),rfl,
  _,_,rfl,⟨rfl,h.kind⟩,_,_,rfl,⟨rfl,h.a⟩,_,_,rfl,⟨rfl,h.b⟩,_,_,rfl,⟨rfl,h.k⟩,_,_,rfl,⟨rfl,h.s⟩,_,_,rfl,⟨rfl,h.p⟩,_,_,rfl,⟨rfl,h.out⟩,_,_,rfl,⟨rfl,h.za⟩,_,_,rfl,⟨rfl,h.zb⟩,
  _,_,rfl,hw.rep,_,_,rfl,hb.rep,_,_,rfl,⟨_,_,rfl,⟨rfl,h.qm⟩,_,_,rfl,⟨rfl,h.qs⟩,rfl,h.qz⟩,_,_,rfl,⟨_,_,rfl,⟨rfl,h.rm⟩,_,_,rfl,⟨rfl,h.rs⟩,rfl,h.rz⟩,_,_,rfl,⟨rfl,h.lo⟩,rfl,h.hi⟩
theorem two_put {c:List Value} {p:Nat} {u v:Value} (h:p+2≤c.length):(c.take p ++ [u] ++ c.drop (p+1)).take (p+1) ++ [v] ++ (c.take p ++ [u] ++ c.drop (p+1)).drop (p+1+1)=c.take p ++ [u,v] ++ c.drop (p+2):=by
 have h1:(c.take p ++ [u]).length=p+1:=by rw [List.length_append,List.length_take];simp;omega
 rw [List.take_append_of_le_length (by omega),List.take_of_length_le (by omega),List.drop_append,h1,List.drop_of_length_le (by omega),List.nil_append,List.drop_drop,show p+1+(p+1+1 - (p+1))=p+2 by omega]
 simp
theorem copiedBlock_any (b:BlkD) (L:Option Addr) (n cn:Nat) (W:Option Addr) (nw cw:Nat) (B:Option Addr) (nb cb:Nat) (w:World) (hb:BlkAt b L n cn W nw cw B nb cb (blo w.heap.size) w) (hf:fewB b) (hn:1≤n) :
  Calls Tryz.prog 41 #[.agg #[.slice L n cn,.bool b.exit,.slice W nw cw,.slice B nb cb,.int .i32 b.head.need]] w (RetBlk b n nw nb w):=by
 have LN:=zH hb.nodes.n_eq
 have n12:n≤12:=by have:=hf.1.1;rw [hb.nodes.n_eq] at this;exact this
 have FW:=zH hf.1.2
 have CN:=zH (fun w q=>cloneNode_any L n cn b.nodes w (blo w.heap.size) (fun _ h=>h) q (by omega))
 have CH:=zH (fun w q1 q2=>copiedHead_any b.head W nw cw B nb cb w q1 q2 (by have:=hf.2.1;rw [hb.hw.n_eq] at this;omega) (by have:=hf.2.2;rw [hb.hb.n_eq] at this;omega))
 have HB:=zH hb
 have NE:=zH hb.need
 have H:=zH (Far.refl w)
 obtain ⟨need,hnd⟩:∃ x,b.head.need=x:=⟨_,rfl⟩
 obtain ⟨ex,hex⟩:∃ x,b.exit=x:=⟨_,rfl⟩
 have HE:=zH (And.intro hnd hex)
 unfold RetHd at CH
 rw [hnd,hex]
 simp only [hnd] at CH
 clear hb hf hnd hex
 obtain ⟨w1,hw_w1,B1,k1⟩:=nB w #[.slice L n cn,.bool ex,.slice W nw cw,.slice B nb cb,.int .i32 need] 49
 replace H:=zN k1 H B1
 clear B1 k1
 obtain ⟨w2,hw_w2,B2,k2⟩:=nB w1 #[.slice none 0 0,.bool false,.slice none 0 0,.slice none 0 0,.int .i32 0] 49
 replace H:=zN k2 H B2
 clear B2 k2
 have l1:w.heap.size < w1.heap.size:=by rw [← hw_w1];simp
 have l2:w1.heap.size < w2.heap.size:=by rw [← hw_w2];simp
 have cA:=fun i=>H.out.1.2.cell i
 go_enter Tryz.func41,Tryz.ntmps41
 go_wp2_with fail
 refine (CN.out _ (HB.out.fut H.out.1.1.out).nodes).mono ?_
 rintro e w3 ⟨v,rfl,ho,hb⟩
 have hoB:=ho.toB (by rw [nodeSize];decide)
 have g23:=zH hb
 clear ho cA
 rcases hoB with ⟨-,q,-⟩|⟨g,cap,cur0,rfl,hg,OB⟩
 ·omega
 have H2:=H
 clear H hb hw_w1 hw_w2
 go_wp2_with fail
 go_loopw [11] (fun i wr=>∃ (k:Nat) (S:Nat → Nat → Prop) (cur:Array Value),k≤n∧i=.int .i64 k∧OwnB tNode wr S g 87 n cap b.nodes cur∧(∀ j x,j < n → S j x → x < wr.heap.size∧x ≠ g∧(j < k → w2.heap.size≤x))∧Below w2.heap.size w2 wr) (fun i _=>n - (intOf i).toNat)
 case atStart=>exact ⟨0,_,cur0,Nat.zero_le _,rfl,OB,fun j x hj hx=>⟨Nat.lt_of_lt_of_le (show x < w2.heap.size from hx) g23.out.size,fun e=>absurd (show x < w2.heap.size from hx) (by omega),fun h=>by omega⟩,g23.out⟩
 case round =>
  clear OB
  obtain ⟨k,S,cur,hk,rfl,hO,hS,hb2⟩:=hrel
  have OB:=zH hO
  have SS:=zH hS
  have H:=zF hb2 H2
  have zr:=hb2.size
  have G2:=zH hb2
  clear hO hS hb2
  by_cases hlt:k < n
  ·have p1:(k:Int) < (n:Int):=by omega
   have gi:IntKind.i64.wrap ((k:Int)+1)=((k+1:Nat):Int):=(IntWalk.i64_in _ (by omega)).trans (by simp)
   have hkl:k < b.nodes.length:=by rw [LN.out];exact hlt
   have hd:b.nodes[k]?=some b.nodes[k]:=List.getElem?_eq_getElem hkl
   obtain ⟨d,hdd⟩:∃ d,b.nodes[k]=d:=⟨_,rfl⟩
   rw [hdd] at hd
   obtain ⟨X0,mx,cx,Y0,my,cy,hc,hin,h8,h32⟩:=node_open (OB.out.at_ k d hd)
   have HC:=zH hc
   rw [nodeSize] at HC
   have FD:=FW.out d (List.mem_of_getElem? hd)
   have RG:=zH (show wr.rangeAt g (k*19) [.int .i64 d.kind,.int .i64 d.a,.int .i64 d.b,.int .i64 d.k,.int .i64 d.s,.int .i64 d.p,.int .i64 d.out,.int .i8 d.za,.int .i8 d.zb,.slice X0 mx cx,.slice Y0 my cy,.int .i32 d.qm,.int .i64 d.qs,.int .i8 d.qz,.int .i32 d.rm,.int .i64 d.rs,.int .i8 d.rz,.int .i8 d.lo,.int .i8 d.hi] from fun j v hv=>by
    rw [OB.out.blk.cell,← Array.getElem?_toList]
    rw [← HC.out] at hv
    exact drop_get hv)
   have HD:=zH hd
   have IN:=zH hin
   have A8:=zH (show Old wr (tInt .i8) wr X0 mx cx d.w from ⟨h8.more fun x hx=>(SS.out k x hlt hx).1,Nat.le_refl _⟩)
   have A32:=zH (show Old wr (tInt .i32) wr Y0 my cy d.bias from ⟨h32.more fun x hx=>(SS.out k x hlt hx).1,Nat.le_refl _⟩)
   have q8:=h8.n_eq
   have q32:=h32.n_eq
   have C8:=zH (fun w q=>clone8_any X0 mx cx d.w w q (by omega))
   have C32:=zH (fun w q=>clone32_any Y0 my cy d.bias w q (by omega))
   have hgr:=OB.out.blk.lt
   clear hd hdd hc hin h8 h32 hkl
   have HX:=zH (Far.refl wr)
   go_upto_region 5 with (first|(refine lM 87 (.tmp 14) RG.out Tryz.underlying87 ?_)|(refine sF 87 (.tmp 5) (.tmp 15) (nN d.kind d.a d.b d.k d.s d.p d.out d.za d.zb X0 mx cx Y0 my cy d.qm d.qs d.qz d.rm d.rs d.rz d.lo d.hi) ?_;intro w5 b5 k5;replace HX:=zN k5 HX b5;clear b5 k5))
   have HX:=zD w5 HX
   have g9:=HX.out.2.cell 9
   have g10:=HX.out.2.cell 10
   refine wp_region_any (by kernel_rfl) ?_
   refine wpAny_take (i:=0) (v:=?_) rfl (by as_aux_lemma=>kernel_rfl) (by as_aux_lemma=>kernel_rfl) (by as_aux_lemma=>kernel_rfl) (fun _ _ _ h=>h) (Or.inl ⟨by rfl,?_⟩) ?_
   rotate_left
   ·intro w;go_simp;try with_reducible rfl
   try simp only [pX]
   refine wpAny_take (i:=1) (v:=?_) rfl (by as_aux_lemma=>kernel_rfl) (by as_aux_lemma=>kernel_rfl) (by as_aux_lemma=>kernel_rfl) (fun _ _ _ h=>h) (Or.inl ⟨by rfl,?_⟩) ?_
   rotate_left
   ·intro w;go_simp;try with_reducible rfl
   try simp only [pX]
   refine wpAny_take (i:=2) (v:=?_) rfl (by as_aux_lemma=>kernel_rfl) (by as_aux_lemma=>kernel_rfl) (by as_aux_lemma=>kernel_rfl) (fun _ _ _ h=>h) (Or.inl ⟨by rfl,?_⟩) ?_
   rotate_left
   ·intro w;go_simp;try with_reducible rfl
   try simp only [pX]
   refine wpAny_take (i:=3) (v:=?_) rfl (by as_aux_lemma=>kernel_rfl) (by as_aux_lemma=>kernel_rfl) (by as_aux_lemma=>kernel_rfl) (fun _ _ _ h=>h) (Or.inl ⟨by rfl,?_⟩) ?_
   rotate_left
   ·intro w;go_simp;try with_reducible rfl
   try simp only [pX]
   refine wpAny_take (i:=4) (v:=?_) rfl (by as_aux_lemma=>kernel_rfl) (by as_aux_lemma=>kernel_rfl) (by as_aux_lemma=>kernel_rfl) (fun _ _ _ h=>h) (Or.inl ⟨by rfl,?_⟩) ?_
   rotate_left
   ·intro w;go_simp;try with_reducible rfl
   try simp only [pX]
   refine wpAny_take (i:=7) (v:=?_) rfl (by as_aux_lemma=>kernel_rfl) (by as_aux_lemma=>kernel_rfl) (by as_aux_lemma=>kernel_rfl) (fun _ _ _ h=>h) (Or.inl ⟨by rfl,?_⟩) ?_
   rotate_left
   ·intro w;go_simp;try with_reducible rfl
   try simp only [pX]
   refine wpAny_enterT (fun w'=>w'.cell? ⟨wr.heap.size,9,none⟩=some (.slice X0 mx cx)∧w'.cell? ⟨wr.heap.size,10,none⟩=some (.slice Y0 my cy)∧Below w5.heap.size w5 w') 10 ?_ (fun hS=>?_)
   ·exact ⟨HX.out.2.cell 9,HX.out.2.cell 10,(Below.refl _ _).drew⟩
   refine kT 5 rfl hS ?_
   try simp only [pX]
   refine wpAnyT_takeM 9 (i:=8) (v:=?_) rfl (by as_aux_lemma=>kernel_rfl) (by as_aux_lemma=>kernel_rfl) (by as_aux_lemma=>kernel_rfl) (by as_aux_lemma=>kernel_rfl) (by as_aux_lemma=>kernel_rfl) (by as_aux_lemma=>kernel_rfl) rfl (fun _ _ _ h=>h) (Or.inl ⟨by rfl,?_⟩) hS ?_
   rotate_left
   ·intro w hSw;(try dsimp only at hSw);go_simp;try with_reducible rfl
   try simp only [pX]
   refine wpAnyT_one (i:=6) (by kernel_rfl) rfl rfl (fun K hK=>?_)
   go_simp
   refine (C8.out _ (A8.out.fut HX.out.1.out).all).mono ?_;rintro e w6 ⟨X,m3,c3,rfl,q,hb⟩;have N1:=zH (show New wr _ _ _ _ _ _ from New.of q HX.out.1);have L1:=zH q.n_eq;replace HX:=zN hb HX N1;clear q N1
   refine hK.out _ _ ?_ (fun hS=>?_)
   ·exact ⟨(by first|exact cell_later hb hS.1|exact Blk.later hS.1 hb),(by first|exact cell_later hb hS.2.1|exact Blk.later hS.2.1 hb),(by first|exact below_later hb hS.2.2|exact grown_below hS.2.2 hb)⟩
   clear hK K
   try simp only [pX]
   refine wpAnyT_one (i:=9) (by kernel_rfl) rfl rfl (fun K hK=>?_)
   go_simp
   refine (C32.out _ (A32.out.fut HX.out.1.1.out).all).mono ?_;rintro e w7 ⟨Y,m4,c4,rfl,q,hb⟩;have N2:=zH (show New wr _ _ _ _ _ _ from New.of q HX.out.1.1);have L2:=zH q.n_eq;replace HX:=zN hb HX N2;clear q N2
   refine hK.out _ _ ?_ (fun hS=>?_)
   ·exact ⟨(by first|exact cell_later hb hS.1|exact Blk.later hS.1 hb),(by first|exact cell_later hb hS.2.1|exact Blk.later hS.2.1 hb),(by first|exact below_later hb hS.2.2|exact grown_below hS.2.2 hb)⟩
   clear hK K
   try simp only [pX]
   refine wpAnyT_tail _ _ rfl rfl (by kernel_rfl) ?_
   clear hS hb C8 C32 RG
   have FW7:=zH HX.out.1.1.1.out
   have NX:=zH (And.intro HX.out.1.2 HX.out.2)
   clear HX
   replace H:=zF FW7.out H
   replace OB:=zH (OB.out.fut FW7.out fun j b hj hs=>(SS.out j b hj hs).1)
   have SK:=zH (fun x (h:S k x)=>(SS.out k x hlt h).1)
   have OC:=zH (And.intro OB.out.size (And.intro OB.out.le (OB.out.blk.lt)))
   rw [nodeSize] at OC
   have z1:(k+1)*19≤cap*19:=Nat.mul_le_mul_right _ (by have:=OC.out.2.1;omega)
   have f0:k*19+9 < cur.size:=by rw [OC.out.1];omega
   obtain ⟨cur1,hc1⟩:∃ c:Array Value,c.toList=cur.toList.take (k*19+9) ++ [.slice X m3 c3] ++ cur.toList.drop (k*19+9+1):=⟨_,List.toList_toArray⟩
   have f1:k*19+10 < cur1.size:=by rw [← Array.length_toList,hc1,List.length_append,List.length_append,List.length_take,List.length_drop,Array.length_toList,OC.out.1];simp;omega
   obtain ⟨cur2,hc2⟩:∃ c:Array Value,c.toList=cur1.toList.take (k*19+10) ++ [.slice Y m4 c4] ++ cur1.toList.drop (k*19+10+1):=⟨_,List.toList_toArray⟩
   have C1:=zH hc1
   have C2:=zH hc2
   have F0:=zH f0
   have F1:=zH f1
   clear hc1 hc2 f0 f1
   go_wp2_with (first
    | (refine wpList_store_one rfl _ (.tmp 27) (.tmp 22) rfl g (k*19+9) (.slice X m3 c3) rfl rfl rfl rfl _ cur cur1 OB.out.blk F0.out (by kernel_rfl) C1.out ?_;intro w8 b8 g8;replace NX:=zA g8 NX;replace H:=zA g8 H)
    | (refine wpList_store_one rfl _ (.tmp 29) (.tmp 25) rfl g (k*19+10) (.slice Y m4 c4) rfl rfl rfl rfl _ cur1 cur2 b8 F1.out (by kernel_rfl) C2.out ?_;intro w9 b9 g9;replace NX:=zA g9 NX;replace H:=zA g9 H))
   have g89:=g8.trans g9
   have z7:=FW7.out.size
   have z9:=g89.size
   have hO2:OwnB tNode w9 (fun j x=>(j ≠ k∧S j x) ∨ (j=k∧wr.heap.size≤x∧x < w9.heap.size)) g 87 n cap (b.nodes.set k d) cur2:=by
    refine OB.out.put (o:=9) (ps:=[.slice X m3 c3,.slice Y m4 c4]) hlt g89 b9 ?_ (Nat.le_of_ble_eq_true rfl) (fun j x hj hjk hs=>⟨.inl ⟨hjk,hs⟩,Nat.lt_of_lt_of_le (SS.out j x hj hs).1 z7,(SS.out j x hj hs).2.1⟩) ?_
    ·rw [C2.out,C1.out,nodeSize]
     exact two_put (by rw [Array.length_toList,OC.out.1];omega)
    ·rw [nodeSize,HC.out]
     exact nodeRep IN.out (NX.out.1.out.more fun x hx=>.inr ⟨rfl,hx.1,hx.2⟩) (NX.out.2.out.more fun x hx=>.inr ⟨rfl,hx.1,hx.2⟩)
   have hset:b.nodes.set k d=b.nodes:=by
    obtain ⟨h1,h2⟩:=List.getElem?_eq_some_iff.1 HD.out
    rw [← h2,List.set_getElem_self]
   rw [hset] at hO2
   refine ⟨⟨k+1,_,cur2,by omega,by go_num,hO2,?_,(below_later FW7.out G2.out).grown g89 (by omega) (fun x hx=>by have:=Option.some.inj hx;omega)⟩,by simp [intOf];omega⟩
   rintro j x hj (⟨hjk,hs⟩|⟨rfl,h1,h2⟩)
   ·have:=SS.out j x hj hs
    exact ⟨by omega,this.2.1,fun h=>this.2.2 (by omega)⟩
   ·exact ⟨h2,by omega,fun _=>by omega⟩
  ·obtain rfl:n=k:=by omega
   have p1:¬ (n:Int) < (n:Int):=by omega
   have hgr:=OB.out.blk.lt
   go_upto_region 7 with fail
   replace H:=zD wr H
   have HX:=zH (Far.refl wr).draw
   refine wp_region_any (by kernel_rfl) ?_
   refine wpAny_take (i:=0) (v:=?_) rfl (by as_aux_lemma=>kernel_rfl) (by as_aux_lemma=>kernel_rfl) (by as_aux_lemma=>kernel_rfl) (fun _ _ _ h=>h) (Or.inl ⟨by rfl,?_⟩) ?_
   rotate_left
   ·intro w;go_simp;try with_reducible rfl
   try simp only [pX]
   refine wpAny_take (i:=1) (v:=?_) rfl (by as_aux_lemma=>kernel_rfl) (by as_aux_lemma=>kernel_rfl) (by as_aux_lemma=>kernel_rfl) (fun _ _ _ h=>h) (Or.inl ⟨by rfl,?_⟩) ?_
   rotate_left
   ·intro w;go_simp;try with_reducible rfl
   try simp only [pX]
   refine wpAny_take (i:=3) (v:=?_) rfl (by as_aux_lemma=>kernel_rfl) (by as_aux_lemma=>kernel_rfl) (by as_aux_lemma=>kernel_rfl) (fun _ _ _ h=>h) (Or.inl ⟨by rfl,?_⟩) ?_
   rotate_left
   ·intro w;go_simp;try with_reducible rfl
   try simp only [pX]
   refine wpAny_enterT (fun w'=>w'.cell? ⟨w.heap.size,1,none⟩=some (.bool ex)∧Blk w' w.heap.size 49 #[.slice L n cn,.bool ex,.slice W nw cw,.slice B nb cb,.int .i32 need]∧Below wr.heap.size wr w') 6 ?_ (fun hS=>?_)
   ·exact ⟨H.out.1.2.cell 1,H.out.1.2,(Below.refl _ _).drew⟩
   refine kT 2 rfl hS ?_
   try simp only [pX]
   refine wpAnyT_takeM 5 (i:=4) rfl (by as_aux_lemma=>kernel_rfl) (by as_aux_lemma=>kernel_rfl) (by as_aux_lemma=>kernel_rfl) (by as_aux_lemma=>kernel_rfl) (by as_aux_lemma=>kernel_rfl) (by as_aux_lemma=>kernel_rfl) rfl (fun _ _ _ h=>h) (yieldsIf_load_blk (by rfl) 47 (.tmp 34) rfl w.heap.size 2 rfl _ #[.slice L n cn,.bool ex,.slice W nw cw,.slice B nb cb,.int .i32 need] #[.slice W nw cw,.slice B nb cb,.int .i32 need] _ (fun w hs=>hs.2.1) Tryz.underlying47 rfl (by kernel_rfl) rfl) hS ?_
   try simp only [pX]
   refine wpAnyT_one (i:=5) (by kernel_rfl) rfl rfl (fun K hK=>?_)
   go_simp
   refine (CH.out _ (HB.out.fut H.out.1.1.out).hw (HB.out.fut H.out.1.1.out).hb).mono ?_;rintro e w4 ⟨X,c3,Y,c4,rfl,qx,qy,hb⟩;have NX:=zH (And.intro qx qy);have z4:=hb.size;replace H:=zF hb H;replace HX:=zF hb HX;clear qx qy
   refine hK.out _ _ ?_ (fun hS=>?_)
   ·exact ⟨(by first|exact cell_later hb hS.1|exact Blk.later hS.1 hb),(by first|exact cell_later hb hS.2.1|exact Blk.later hS.2.1 hb),(by first|exact below_later hb hS.2.2|exact grown_below hS.2.2 hb)⟩
   clear hK K
   try simp only [pX]
   refine wpAnyT_tail _ _ rfl rfl (by kernel_rfl) ?_
   have FW:=zH HX.out.out
   have z5:=HX.out.out.size
   clear hS hb CH HX
   replace OB:=zH (OB.out.fut FW.out fun j b hj hs=>(SS.out j b hj hs).1)
   go_wp2_with (refine sB 49 (.tmp 2) (.tmp 37) w1.heap.size #[.slice (some ⟨g,0,none⟩) n cap,.bool ex,.slice X nw c3,.slice Y nb c4,.int .i32 need] H.out.2 ?_;intro w7 b7 g7;have F7:=zA g7 (zH H.out.1.1);have N7:=zH (OB.out.away g7 (by omega) fun j x hj hs=>⟨Nat.lt_of_lt_of_le (SS.out j x hj hs).1 z5,by have:=(SS.out j x hj hs).2.2 hj;omega⟩);replace NX:=zA g7 (zH (And.intro (show New wr _ _ _ _ _ _ from ⟨NX.out.1⟩) (show New wr _ _ _ _ _ _ from ⟨NX.out.2⟩)));have z7:=g7.size;clear g7)
   refine ret_cell rfl b7 rfl Tryz.underlying49 (by kernel_rfl) rfl ?_
   refine ⟨_,cap,X,c3,Y,c4,by rw [HE.out.1,HE.out.2],⟨N7.out.sl ⟨by omega,by omega⟩ fun j x hj hs=>⟨?_,?_⟩,?_,?_,NE.out⟩,F7.out.out⟩
   ·have:=(SS.out j x hj hs).2.2 hj;omega
   ·have:=(SS.out j x hj hs).1;omega
   ·exact NX.out.1.out.more (bin_more (by omega) (Nat.le_refl _))
   ·exact NX.out.2.out.more (bin_more (by omega) (Nat.le_refl _))
end Go.Proofs.YtppcjcigekoipaaGreat
