/-
  A value in its place (layer 29: room.value).
  A node is done in the room (layer 29: room.done).
-/
import Derived.Test.YtmihnoagagbgaaaGreatKB00
set_option linter.unusedVariables false
set_option linter.unusedSimpArgs false
set_option maxRecDepth 100000
set_option maxHeartbeats 16000000
namespace Go.Proofs.YtmihnoagagbgaaaGreat
open Go.RowKit Go.ChangeShapes Go.WideShapes Tryz
set_option maxRecDepth 100000
set_option maxHeartbeats 16000000
abbrev rmC (A1:QA) (m1 c1:Nat) (A2:QA) (m2 c2:Nat) (sz:Int) (q N:Nat):Array Value:=#[.slice A1 m1 c1,.slice A2 m2 c2,.int .i64 sz,.slice (some ⟨q,0,none⟩) N N]
theorem uD (gr:Nat) (A1:QA) (m1 c1:Nat) (A2:QA) (m2 c2:Nat) (sz:Int) (q N:Nat) (sl:List Sh3) (al:List Int) (w:World) (hb:Blk w gr 53 (rmC A1 m1 c1 A2 m2 c2 sz q N)) (h1:Sl dC w (blo w) A1 m1 c1 sl) (h2:Sl (aa .i64) w (blo w) A2 m2 c2 al)
  (i:Nat) (x:Sh3) (hx:sl.getD i (0,0,0)=x) (hi:i < m1) (hi2:i < m2) (p s:Nat) (hp:al.getD i 0=p) (hs:ab x.1 x.2.1 x.2.2=s) (s1:1≤s) (hf:p+s≤N) (hN:N≤1073741824) :
  Calls prog 12 #[.pointer (some ⟨gr,0,none⟩),.int .i64 i] w fun e w'=>e=.returned (.agg (tN x.1 x.2.1 x.2.2 (some ⟨q,p,none⟩) s s))∧Below w w w':=by
 obtain ⟨x1,x2,x3⟩:=x
 simp only at hs ⊢
 have mx1:=lT h1.cap_le h1.max_le
 have mx2:=lT h2.cap_le h2.max_le
 unfold maxLen at mx1 mx2
 obtain ⟨b1,o1,rfl,-,-,i1,i2,i3,-,r1⟩:=h1.shape_at i hi
 rw [hx] at r1 i1 i2 i3
 obtain ⟨b2,o2,rfl,-,-,cp,-⟩:=h2.int_at i hi2
 rw [hp] at cp
 have EL:=zH (fun w=>bQ x1 x3 x2 w i1 i2 i3)
 simp only [hs] at EL
 have R1:=zH r1
 have BG:=zH hb
 have CP:=zH cp
 have gl:gr < w.heap.size:=hb.lt
 have gi1:(i:Int) < (m1:Int):=oM
 have gi2:(i:Int) < (m2:Int):=oM
 obtain ⟨p2,hp2⟩:∃ p2:Nat,p2=p+s:=⟨_,rfl⟩
 have e1:IntKind.i64.wrap ((p:Int)+(s:Int))=(p2:Int):=(wJ).trans oM
 have y1:p≤p2:=oM
 have y2:p2≤N:=oM
 have y3:p2 - p=s:=oM
 have y4:¬ p2=p:=oM
 clear h1 h2 hx hb hp hs hf cp r1 i1 i2 i3 hp2
 have H:=zW w
 obtain ⟨w1,yw1,B1,k1⟩:=nB w (tN 0 0 0 none 0 0) 27
 replace H:=zN k1 H B1
 replace BG:=zF k1 BG
 have RR:=zH (ua R1.o k1)
 have CP1:=zH (ao k1 CP.o)
 have l1:=zL yw1
 clear B1 k1
 have cA:=fun j=>BG.o.cell j
 go_in
 go_upto_region 2 with (first
  | (refine lM 24 (.tmp 14) RR.o underlying24 ?_)
  | (refine sF 24 (.tmp 5) (.tmp 15) (sN x1 x2 x3) ?_;intro w2 b2 k2;replace H:=zN k2 H b2;replace BG:=zF k2 BG;replace CP1:=zH (ao k2 CP1.o);clear b2 cA))
 have z2:=k2.size
 clear yw1 k2 RR R1 CP
 have R5:=zH (fun z:Ext w2=>kr (off:=0) (vs:=[.int .i64 x1,.int .i64 x2,.int .i64 x3]) (H.o.2.ext z) rfl)
 have ca:∀ z:Ext w2,z.1.cell? ⟨gr,1,none⟩=some (.slice (some ⟨b2,o2,none⟩) m2 c2):=fun z=>(BG.o.ext z).cell 1
 have cb:∀ z:Ext w2,z.1.cell? ⟨b2,o2+i,none⟩=some (.int .i64 p):=fun z=>ao z.2 CP1.o
 have E1:=zH (fun z:Ext w2=>aR z (EL.o z.1))
 try simp only [pX]
 refine aB w2 kM kM (qB _ _) ?_
 repeat (go_big_quiet_step (fail))
 refine jg kM 24 (.tmp 5) rfl w1.heap.size 0 rfl _ _ (by rintro _ ⟨z,rfl⟩;exact R5.o z) underlying24 rfl kM ?_
 simp only [pX]
 repeat (go_big_quiet_step ((with_reducible exact E1.o _)))
 refine wpQuiet_nil ?_
 rintro wa ⟨⟨_,hb⟩,rfl⟩
 obtain ⟨H,BG⟩:=uz2 hb H BG
 clear hb R5 ca cb E1 CP1 EL
 have zz:=H.o.2.lt
 go_wp2_with fail
 refine wp_region_held_drew (S:=fun w'=>w'.cell? ⟨gr,3,none⟩=some (.slice (some ⟨q,0,none⟩) N N)∧Blk w' gr 53 (rmC (some ⟨b1,o1,none⟩) m1 c1 (some ⟨b2,o2,none⟩) m2 c2 sz q N)∧Blk w' w1.heap.size 24 (sN x1 x2 x3)∧Below w w w') kM ?_ (fun hS=>?_)
 ·exact ⟨BG.o.drew.cell 3,BG.o.drew,H.o.2.drew,H.o.1.1.out.drew⟩
 refine tkH 0 rfl (yB 24 (.tmp 5) w1 (fun w hs=>hs.2.2.1) underlying24) hS ?_
 try simp only [pX]
 refine kH' 1 hS ?_
 refine kH' 2 hS ?_
 refine kH' 3 hS ?_
 refine kH' 4 hS ?_
 refine kH' 5 hS ?_
 refine kH' 6 hS ?_
 refine kH' 7 hS ?_
 refine kH' 8 hS ?_
 refine kH' 9 hS ?_
 refine rH 10 rfl (fun K hK=>?_)
 (rw [if_pos (by rfl)];refine oG (tN x1 x2 x3 (some ⟨q,p,none⟩) s s) H.o.1.2.drew ?_;intro w7 B7 g7;have BG7:=hS.2.1.away g7 oM;refine hK.out _ _ ⟨BG7.cell 3,BG7,hS.2.2.1.away g7 oM,hS.2.2.2.grown g7 hS.2.2.2.size (fun k h=>by have:=sI h;omega)⟩ (fun hS=>?_))
 clear hK K
 try simp only [pX]
 refine wpAnyH_done kM ?_ _
 have FZ:=hS.2.2.2
 go_wp2_with fail
 refine ret_cell rfl B7 rfl underlying27 kM rfl ?_
 exact ⟨rfl,FZ⟩
theorem uJ {w:World} {base q N:Nat} {L:List Int} (own:Own (aa .i8) w (fun _=>False) base 37 (.slice (some ⟨q,0,none⟩) N N) N L) (p s:Nat) (h:p+s≤N):xA w (some ⟨q,p,none⟩) s s ((L.drop p).take s):=by
 obtain ⟨A,c,e,sl⟩:=own.sl (S':=blo w) dM (fun b _ h=>h) (fun _ h=>h.elim)
 injection e with e e2 e3
 subst e e3
 have:=sl.sub p s p s (by rw [show (aa .i8).size=1 from rfl,Nat.mul_one]) h (lR _) oM
 rwa [Nat.zero_add] at this
theorem uX {w:World} {S:Nat → Prop} {A:QA} {n c:Nat} {l:List Int} (h:Sl (aa .i8) w S A n c l) (h1:1≤n):∃ ad:Addr,A=some ad∧(∀ x ∈ l,InK .i8 x)∧∀ j,j < l.length → w.cell? (ad.add j)=some (.int .i8 (l.getD j 0)):=by
 have hl:=h.n_eq
 obtain ⟨b,o,e,-⟩:=h.int_at 0 oM
 refine ⟨_,e,fun x hx=>?_,fun j hj=>?_⟩
 ·obtain ⟨j,hj,rfl⟩:=List.getElem_of_mem hx
  have:=h.allK j
  rwa [gD,List.getElem?_eq_getElem hj] at this
 ·obtain ⟨b',o',e',-,-,cx,-⟩:=h.int_at j oM
  rw [e] at e'
  injection e' with e'
  injection e' with e1 e2 e3
  subst e1 e2
  rw [show (⟨b,o,none⟩:Addr).add j=⟨b,o+j,none⟩ by unfold Addr.add;split <;> simp_all <;> omega]
  exact cx
theorem uI {w w':World} (h:Below w w w') (row:Option Nat):w.grownBy w' row:=⟨h.os,h.tape,h.output,h.size,fun b hb _=>h.block b hb⟩
theorem uZ (gr:Nat) (A1:QA) (m1 c1:Nat) (A2:QA) (m2 c2:Nat) (sz:Int) (q N base:Nat) (sl:List Sh3) (al L:List Int) (w:World) (hb:Blk w gr 53 (rmC A1 m1 c1 A2 m2 c2 sz q N)) (h1:Sl dC w (blo w) A1 m1 c1 sl) (h2:Sl (aa .i64) w (blo w) A2 m2 c2 al)
  (own:Own (aa .i8) w (fun _=>False) base 37 (.slice (some ⟨q,0,none⟩) N N) N L) (hN:N≤1073741824)
  (d:af) (W:QA) (nw cw:Nat) (B:QA) (nb cb:Nat) (hd:aE d) (hw:xA w W nw cw d.w) (hbi:xB w B nb cb d.bias) (mw:nw≤2000∧nb≤200)
  (x:ae) (code:Int) (i ia ib:Nat) (hia:d.a=ia) (hib:aU d=ib) (ta tb:ae) (hta:ta.ok=true) (htb:tb.ok=true)
  (la:ia < m1∧ia < m2) (lb:ib < m1∧ib < m2) (li:i+1 < m1∧i+1 < m2) (pa pb po sa sb so:Nat)
  (xa:sl.getD ia (0,0,0)=(ta.h,ta.v,ta.c)) (xb:sl.getD ib (0,0,0)=(tb.h,tb.v,tb.c)) (xo:Sh3) (hxo:sl.getD (i+1) (0,0,0)=xo)
  (ea:ab ta.h ta.v ta.c=sa) (eb:ab tb.h tb.v tb.c=sb) (eo:ab xo.1 xo.2.1 xo.2.2=so) (za:1≤sa) (zb:1≤sb) (zo:code=0 → 1≤so)
  (ya:al.getD ia 0=pa) (yb:al.getD ib 0=pb) (yo:al.getD (i+1) 0=po) (fa:pa+sa≤N) (fb:pb+sb≤N) (fo:po+so≤N)
  (va:(L.drop pa).take sa=ta.data) (vb:(L.drop pb).take sb=tb.data) (hx:dn d ta tb=(x,code)) (hxs:code=0 → x.data.length=so) :
  Calls prog 13 #[.pointer (some ⟨gr,0,none⟩),.int .i64 i,.agg (nD d W nw cw B nb cb)] w fun e w'=>e=.returned (.int .i64 code)∧Own (aa .i8) w' (fun _=>False) base 37 (.slice (some ⟨q,0,none⟩) N N) N (if code=0 then splice L po x.data else L)∧w.grownBy w' (some q):=by
 have ka:=pD hta
 have kb:=pD htb
 have VA:=zH (fun w hb h1 h2=>uD gr A1 m1 c1 A2 m2 c2 sz q N sl al w hb h1 h2 ia _ xa la.1 la.2 pa sa ya ea za fa hN)
 have VB:=zH (fun w hb h1 h2=>uD gr A1 m1 c1 A2 m2 c2 sz q N sl al w hb h1 h2 ib _ xb lb.1 lb.2 pb sb yb eb zb fb hN)
 have VO:=zH (fun w hb h1 h2 (zo:1≤so)=>uD gr A1 m1 c1 A2 m2 c2 sz q N sl al w hb h1 h2 (i+1) _ hxo li.1 li.2 po so yo eo zo fo hN)
 have RN:=zH (fun w hw hbi ha hbs=>oy d W nw cw B nb cb ta tb (some ⟨q,pa,none⟩) (some ⟨q,pb,none⟩) sa sa sb sb w ka kb hd hw hbi ha hbs mw)
 rw [hx] at RN
 unfold ar at RN
 have HI:=zH (And.intro hia hib)
 clear hia hib
 simp only at RN
 have HA0:=uJ own pa sa fa
 have HC0:=uJ own pb sb fb
 rw [va] at HA0
 rw [vb] at HC0
 have ZO:=zH zo
 clear zo
 have KF:=zH (show (d.kind=6 → aU d=d.b)∧(d.kind ≠ 6 → aU d=d.a) from ⟨fun h=>if_pos h,fun h=>if_neg h⟩)
 have H:=zW w
 obtain ⟨w1,yw1,BN,k1⟩:=nB w (nD d W nw cw B nb cb) 42
 have l1:=zL yw1
 replace H:=zF k1 H
 have BG:=zH (hb.fut k1)
 have H1:=zH (h1.fut k1)
 have H2:=zH (h2.fut k1)
 have HW:=zH (hw.fut k1)
 have HB:=zH (hbi.fut k1)
 have HA:=zH (HA0.fut k1)
 have HC:=zH (HC0.fut k1)
 have OW:=zH (own.below k1 (lR _) (fun _ h=>h.elim))
 have XS:=zH hxs
 have mx:m1≤9223372036854775807:=lT h1.cap_le h1.max_le
 have li1:i+1 < m1:=li.1
 clear k1 hb h1 h2 own hw hbi HA0 HC0 va vb xa xb hxo hx hxs hta htb ka kb hd la lb li ea eb eo za zb ya yb yo fa fb
 have gi:IntKind.i64.wrap ((i:Int)+1)=((i+1:Nat):Int):=(wJ).trans sM
 have cA:=fun j=>BN.o.cell j
 go_in
 go_upto_if 14 with fail
 clear yw1
 go_cut [7] (fun v wx=>v=.int .i64 (aU d)∧wx=w1)
 case first =>
  by_cases c6:d.kind=6
  ·have t6:(d.kind == 6)=true:=by simp [c6]
   have C6:=zH c6
   clear c6
   go_wp2_with fail
   go_meet
   case rel=>exact ⟨by rw [KF.o.1 C6.o],rfl⟩
  ·have t6:(d.kind == 6)=false:=by simpa using c6
   have C6:=zH c6
   clear c6
   go_wp2_with fail
   go_meet
   case rel=>exact ⟨by rw [KF.o.2 C6.o],rfl⟩
 case rest =>
 obtain ⟨rfl,hw1⟩:=hcut
 subst wc
 clear KF cA
 rw [← HI.o.1] at VA
 rw [← HI.o.2] at VB
 go_upto_region 4 with fail
 go_cut [8,9] (fun b c wx=>∃ g A7 n7 c7,b=.pointer (some ⟨g,0,none⟩)∧c=.int .i64 code∧Blk wx g 27 (tN x.h x.v x.c A7 n7 c7)∧Sl (aa .i8) wx (bin w1 wx) A7 n7 c7 x.data∧Below w1 w1 wx)
 case first =>
  refine wp_region_held_drew (S:=fun w'=>w'.cell? ⟨w.heap.size,1,none⟩=some (.int .i64 d.a)∧Blk w' w.heap.size 42 (nD d W nw cw B nb cb)∧Below w1 w1 w') kM ?_ (fun hS=>?_)
  ·exact ⟨BN.o.drew.cell 1,BN.o.drew,(qB _ _).drew⟩
  refine tkH 0 rfl (yB 42 (.tmp 5) w (fun w hs=>hs.2.1) underlying42) hS ?_
  try simp only [pX]
  refine kH' 1 hS ?_
  refine kH' 2 hS ?_
  refine kH' 3 hS ?_
  refine kH' 5 hS ?_
  refine kH' 6 hS ?_
  refine wpAnyH_ready (rs:=[4,12]) kM sM ?_
  refine AllReadyH.cons rfl (fun K hK=>?_) (AllReadyH.cons rfl (fun K hK=>?_) AllReadyH.nil)
  ·go_simp
   refine qM (VA.o _ (BG.o.fut hS.2.2) (H1.o.fut hS.2.2) (H2.o.fut hS.2.2)) fun wa hb=>?_
   refine xK hK (by first|exact zR hb hS|exact ⟨ao hb hS.1,ag hb hS.2⟩|exact ag hb hS) fun hS=>?_
   clear hK K
   refine wpAnyH_ready (rs:=[7,12]) kM sM ?_
   refine AllReadyH.cons rfl (fun K hK=>?_) (AllReadyH.cons rfl (fun K hK=>?_) AllReadyH.nil)
   ·go_simp
    refine qM (VB.o _ (BG.o.fut hS.2.2) (H1.o.fut hS.2.2) (H2.o.fut hS.2.2)) fun wb hb=>?_
    refine xK hK (by first|exact zR hb hS|exact ⟨ao hb hS.1,ag hb hS.2⟩|exact ag hb hS) fun hS=>?_
    clear hK K
    refine wpAnyH_ready (rs:=[8,12]) kM sM ?_
    refine AllReadyH.cons rfl (fun K hK=>?_) (AllReadyH.cons rfl (fun K hK=>?_) AllReadyH.nil)
    ·go_simp
     have zlo:=hS.2.2.size
     refine (RN.o _ (HW.o.fut hS.2.2) (HB.o.fut hS.2.2) (HA.o.fut hS.2.2) (HC.o.fut hS.2.2)).mono ?_
     rintro e wc ⟨A7,n7,c7,rfl,q7,hb⟩
     have Q7:=zH q7
     have zhi:=hb.size
     clear q7
     refine xK hK (by first|exact zR hb hS|exact ⟨ao hb hS.1,ag hb hS.2⟩|exact ag hb hS) fun hS=>?_
     clear hK K
     refine kH' 9 hS ?_
     refine kH' 10 hS ?_
     refine kH' 11 hS ?_
     refine rH 12 rfl (fun K hK=>?_)
     go_simp
     obtain ⟨hb,BZ⟩:=zB wc (tN 0 0 0 none 0 0) 27
     have zw1:w1.heap.size≤wc.heap.size:=hS.2.2.size
     replace Q7:=zH (Q7.o.keep fun b h=>hb.block b h.2)
     refine xK hK (by first|exact zR hb hS|exact ⟨ao hb hS.1,ag hb hS.2⟩|exact ag hb hS) fun hS=>?_
     clear hK K
     refine rH 13 rfl (fun K hK=>?_)
     rw [if_pos (by rfl)]
     refine oG (tN x.h x.v x.c A7 n7 c7) BZ.o ?_
     intro wd BX gc
     have zgc:=gc.size
     have zBZ:=BZ.o.lt
     try simp at zgc
     try simp at zBZ
     have Q8:=zH (Q7.o.keep fun b h=>gc.block b (by have h1:=h.1;have h2:=h.2;first|omega|(simp;omega)) (fun e=>by have:=sI e;have h1:=h.1;have h2:=h.2;first|omega|(simp at h1;omega)))
     have BDc:=hS.2.1.away gc oM
     refine hK.out _ _ ⟨BDc.cell 1,BDc,hS.2.2.grown gc hS.2.2.size (fun k h=>by have:=sI h;omega)⟩ (fun hS=>?_)
     clear hK K
     try simp only [pX]
     refine kH' 14 hS ?_
     refine wpAnyH_done kM ?_ _
     have FZ:=hS.2.2
     go_wp2_with fail
     go_meet
     case rel=>exact ⟨_,A7,n7,c7,rfl,rfl,BX,Q8.o.more (fun b h=>⟨by have:=h.1;omega,by have:=h.2;omega⟩),FZ⟩
    ·go_simp
     obtain ⟨hb,BZ⟩:=zB wb (tN 0 0 0 none 0 0) 27
     have zw1:w1.heap.size≤wb.heap.size:=hS.2.2.size
     refine xK hK (by first|exact zR hb hS|exact ⟨ao hb hS.1,ag hb hS.2⟩|exact ag hb hS) fun hS=>?_
     clear hK K
     refine rH 8 rfl (fun K hK=>?_)
     go_simp
     have zG:=BZ.o.lt
     have zlo:=hS.2.2.size
     refine (RN.o _ (HW.o.fut hS.2.2) (HB.o.fut hS.2.2) (HA.o.fut hS.2.2) (HC.o.fut hS.2.2)).mono ?_
     rintro e wc ⟨A7,n7,c7,rfl,q7,hb⟩
     have Q7:=zH q7
     have zhi:=hb.size
     clear q7
     replace BZ:=zH (BZ.o.later hb)
     refine xK hK (by first|exact zR hb hS|exact ⟨ao hb hS.1,ag hb hS.2⟩|exact ag hb hS) fun hS=>?_
     clear hK K
     refine kH' 9 hS ?_
     refine kH' 10 hS ?_
     refine kH' 11 hS ?_
     refine rH 13 rfl (fun K hK=>?_)
     rw [if_pos (by rfl)]
     refine oG (tN x.h x.v x.c A7 n7 c7) BZ.o ?_
     intro wd BX gc
     have zgc:=gc.size
     have zBZ:=BZ.o.lt
     try simp at zgc
     try simp at zBZ
     have Q8:=zH (Q7.o.keep fun b h=>gc.block b (by have h1:=h.1;have h2:=h.2;first|omega|(simp;omega)) (fun e=>by have:=sI e;have h1:=h.1;have h2:=h.2;first|omega|(simp at h1;omega)))
     have BDc:=hS.2.1.away gc oM
     refine hK.out _ _ ⟨BDc.cell 1,BDc,hS.2.2.grown gc hS.2.2.size (fun k h=>by have:=sI h;omega)⟩ (fun hS=>?_)
     clear hK K
     try simp only [pX]
     refine kH' 14 hS ?_
     refine wpAnyH_done kM ?_ _
     have FZ:=hS.2.2
     go_wp2_with fail
     go_meet
     case rel=>exact ⟨_,A7,n7,c7,rfl,rfl,BX,Q8.o.more (fun b h=>⟨by have:=h.1;omega,by have:=h.2;omega⟩),FZ⟩
   ·go_simp
    obtain ⟨hb,BZ⟩:=zB wa (tN 0 0 0 none 0 0) 27
    have zw1:w1.heap.size≤wa.heap.size:=hS.2.2.size
    refine xK hK (by first|exact zR hb hS|exact ⟨ao hb hS.1,ag hb hS.2⟩|exact ag hb hS) fun hS=>?_
    clear hK K
    refine rH 7 rfl (fun K hK=>?_)
    go_simp
    refine qM (VB.o _ (BG.o.fut hS.2.2) (H1.o.fut hS.2.2) (H2.o.fut hS.2.2)) fun wb hb=>?_
    replace BZ:=zH (BZ.o.later hb)
    refine xK hK (by first|exact zR hb hS|exact ⟨ao hb hS.1,ag hb hS.2⟩|exact ag hb hS) fun hS=>?_
    clear hK K
    refine rH 8 rfl (fun K hK=>?_)
    go_simp
    have zG:=BZ.o.lt
    have zlo:=hS.2.2.size
    refine (RN.o _ (HW.o.fut hS.2.2) (HB.o.fut hS.2.2) (HA.o.fut hS.2.2) (HC.o.fut hS.2.2)).mono ?_
    rintro e wc ⟨A7,n7,c7,rfl,q7,hb⟩
    have Q7:=zH q7
    have zhi:=hb.size
    clear q7
    replace BZ:=zH (BZ.o.later hb)
    refine xK hK (by first|exact zR hb hS|exact ⟨ao hb hS.1,ag hb hS.2⟩|exact ag hb hS) fun hS=>?_
    clear hK K
    refine kH' 9 hS ?_
    refine kH' 10 hS ?_
    refine kH' 11 hS ?_
    refine rH 13 rfl (fun K hK=>?_)
    rw [if_pos (by rfl)]
    refine oG (tN x.h x.v x.c A7 n7 c7) BZ.o ?_
    intro wd BX gc
    have zgc:=gc.size
    have zBZ:=BZ.o.lt
    try simp at zgc
    try simp at zBZ
    have Q8:=zH (Q7.o.keep fun b h=>gc.block b (by have h1:=h.1;have h2:=h.2;first|omega|(simp;omega)) (fun e=>by have:=sI e;have h1:=h.1;have h2:=h.2;first|omega|(simp at h1;omega)))
    have BDc:=hS.2.1.away gc oM
    refine hK.out _ _ ⟨BDc.cell 1,BDc,hS.2.2.grown gc hS.2.2.size (fun k h=>by have:=sI h;omega)⟩ (fun hS=>?_)
    clear hK K
    try simp only [pX]
    refine kH' 14 hS ?_
    refine wpAnyH_done kM ?_ _
    have FZ:=hS.2.2
    go_wp2_with fail
    go_meet
    case rel=>exact ⟨_,A7,n7,c7,rfl,rfl,BX,Q8.o.more (fun b h=>⟨by have:=h.1;omega,by have:=h.2;omega⟩),FZ⟩
  ·go_simp
   have hb:Below w1.drew.heap.size w1.drew (w1.drew.alloc (.cells (tN 0 0 0 none 0 0) 27)):=(qB _ _).alloc (lR _) _
   have BZ:=zH (Blk.now w1.drew w1.heap.size 27 (tN 0 0 0 none 0 0) rfl)
   have zw1:w1.heap.size≤w1.heap.size:=hS.2.2.size
   refine xK hK (by first|exact zR hb hS|exact ⟨ao hb hS.1,ag hb hS.2⟩|exact ag hb hS) fun hS=>?_
   clear hK K
   refine rH 4 rfl (fun K hK=>?_)
   go_simp
   refine qM (VA.o _ (BG.o.fut hS.2.2) (H1.o.fut hS.2.2) (H2.o.fut hS.2.2)) fun wa hb=>?_
   replace BZ:=zH (BZ.o.later hb)
   refine xK hK (by first|exact zR hb hS|exact ⟨ao hb hS.1,ag hb hS.2⟩|exact ag hb hS) fun hS=>?_
   clear hK K
   refine rH 7 rfl (fun K hK=>?_)
   go_simp
   refine qM (VB.o _ (BG.o.fut hS.2.2) (H1.o.fut hS.2.2) (H2.o.fut hS.2.2)) fun wb hb=>?_
   replace BZ:=zH (BZ.o.later hb)
   refine xK hK (by first|exact zR hb hS|exact ⟨ao hb hS.1,ag hb hS.2⟩|exact ag hb hS) fun hS=>?_
   clear hK K
   refine rH 8 rfl (fun K hK=>?_)
   go_simp
   have zG:=BZ.o.lt
   have zlo:=hS.2.2.size
   refine (RN.o _ (HW.o.fut hS.2.2) (HB.o.fut hS.2.2) (HA.o.fut hS.2.2) (HC.o.fut hS.2.2)).mono ?_
   rintro e wc ⟨A7,n7,c7,rfl,q7,hb⟩
   have Q7:=zH q7
   have zhi:=hb.size
   clear q7
   replace BZ:=zH (BZ.o.later hb)
   refine xK hK (by first|exact zR hb hS|exact ⟨ao hb hS.1,ag hb hS.2⟩|exact ag hb hS) fun hS=>?_
   clear hK K
   refine kH' 9 hS ?_
   refine kH' 10 hS ?_
   refine kH' 11 hS ?_
   refine rH 13 rfl (fun K hK=>?_)
   rw [if_pos (by rfl)]
   refine oG (tN x.h x.v x.c A7 n7 c7) BZ.o ?_
   intro wd BX gc
   have zgc:=gc.size
   have zBZ:=BZ.o.lt
   try simp at zgc
   try simp at zBZ
   have Q8:=zH (Q7.o.keep fun b h=>gc.block b (by have h1:=h.1;have h2:=h.2;first|omega|(simp;omega)) (fun e=>by have:=sI e;have h1:=h.1;have h2:=h.2;first|omega|(simp at h1;omega)))
   have BDc:=hS.2.1.away gc oM
   refine hK.out _ _ ⟨BDc.cell 1,BDc,hS.2.2.grown gc hS.2.2.size (fun k h=>by have:=sI h;omega)⟩ (fun hS=>?_)
   clear hK K
   try simp only [pX]
   refine kH' 14 hS ?_
   refine wpAnyH_done kM ?_ _
   have FZ:=hS.2.2
   go_wp2_with fail
   go_meet
   case rel=>exact ⟨_,A7,n7,c7,rfl,rfl,BX,Q8.o.more (fun b h=>⟨by have:=h.1;omega,by have:=h.2;omega⟩),FZ⟩
 case rest =>
 obtain ⟨g,A7,n7,c7,rfl,rfl,BXr,S7r,k7⟩:=hcut
 have BX:=zH BXr
 have S7:=zH S7r
 obtain ⟨H,BG,H1,H2⟩:=uz4 k7 H BG H1 H2
 replace OW:=zH (OW.o.below k7 (lR _) (fun _ h=>h.elim))
 clear k7 S7r BXr HW HB HA HC VA VB RN
 by_cases c0:code=0
 ·subst c0
  have xs:=XS.o rfl
  have nn:=S7.o.n_eq
  have zo:=ZO.o rfl
  obtain ⟨ad,rfl,X0r,X2r⟩:=uX S7.o oM
  have X0:=zH X0r
  have X2:=zH X2r
  have X1:=zH (show x.data.length=Nat.min n7 so by rw [nn,← xs,nn];exact (Nat.min_self _).symm)
  have X3:=zH (show po+x.data.length≤N by omega)
  have XX:=zH (And.intro xs nn)
  clear X0r X2r xs nn S7 XS
  have hfd:∀ w:World,(Instr.field 27 (.agg (tN xo.1 xo.2.1 xo.2.2 (some ⟨q,po,none⟩) so so)) 1).run prog w=.ok (.slice (some ⟨q,po,none⟩) so so) w:=fun _=>by kernel_rfl
  go_upto_region 6 with fail
  refine wp_region_any kM ?_
  refine wpAny_take (i:=0) (v:=?_) rfl (by as_aux_lemma=>kernel_rfl) (by as_aux_lemma=>kernel_rfl) (by as_aux_lemma=>kernel_rfl) (fun _ _ _ h=>h) (Or.inl ⟨by rfl,?_⟩) ?_
  rotate_left
  ·intro w;go_simp;try with_reducible rfl
  try simp only [pX]
  refine wpAny_take (i:=1) (v:=?_) rfl (by as_aux_lemma=>kernel_rfl) (by as_aux_lemma=>kernel_rfl) (by as_aux_lemma=>kernel_rfl) (fun _ _ _ h=>h) (Or.inl ⟨by rfl,?_⟩) ?_
  rotate_left
  ·intro w;go_simp;try with_reducible rfl
  try simp only [pX]
  refine wpAny_take (i:=2) (v:=?_) rfl (by as_aux_lemma=>kernel_rfl) (by as_aux_lemma=>kernel_rfl) (by as_aux_lemma=>kernel_rfl) (fun _ _ _ h=>h) (Or.inl ⟨by rfl,?_⟩) ?_
  rotate_left
  ·intro w;go_simp;try with_reducible rfl
  try simp only [pX]
  refine wpAny_take (i:=5) (v:=?_) rfl (by as_aux_lemma=>kernel_rfl) (by as_aux_lemma=>kernel_rfl) (by as_aux_lemma=>kernel_rfl) (fun _ _ _ h=>h) (Or.inl ⟨by rfl,?_⟩) ?_
  rotate_left
  ·intro w;go_simp;try with_reducible rfl
  try simp only [pX]
  refine wpAny_enterT (fun w'=>w'.cell? ⟨g,3,none⟩=some (.slice (some ad) n7 c7)∧Below wc wc w') 7 ?_ (fun hS=>?_)
  ·exact ⟨BX.o.drew.cell 3,(qB _ _).drew⟩
  refine kT' 6 hS ?_
  refine rT 3 (fun K hK=>?_)
  go_simp
  refine qM (VO.o _ (BG.o.fut hS.2) (H1.o.fut hS.2) (H2.o.fut hS.2) zo) fun wv hb=>?_
  refine xK hK (by first|exact zR hb hS|exact ⟨ao hb hS.1,ag hb hS.2⟩|exact ag hb hS) fun hS=>?_
  clear hK K
  refine kT' 4 hS ?_
  refine wpAnyT_tail _ _ rfl rfl kM ?_
  have O3:=OW.o.below hS.2 (lR _) (fun _ h=>h.elim)
  refine iC (k:=.i8) rfl (.tmp 35) (.tmp 37) 25 25 rfl 37 underlying25 kM O3 po so so rfl ad n7 c7 rfl x.data X0.o X1.o (fun j hj=>ao hS.2 (X2.o j hj)) X3.o ?_
  intro w4 own4 g4
  have FZ:=((uI H.o.out (some q)).trans (uI hS.2 _)).trans g4
  go_wp2
  go_ret
  exact ⟨rfl,own4,FZ⟩
 ·have t0:(code == 0)=false:=by simpa using c0
  have C0:=zH c0
  clear c0
  have FZ:=uI H.o.out (some q)
  go_wp2
  go_ret
  exact ⟨rfl,OW.o,FZ⟩
end Go.Proofs.YtmihnoagagbgaaaGreat
