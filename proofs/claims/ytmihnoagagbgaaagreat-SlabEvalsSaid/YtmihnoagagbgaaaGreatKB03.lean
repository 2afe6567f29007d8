/-
  A block's values in one piece of room (layer 29: slab.Eval).
-/
import Derived.Test.YtmihnoagagbgaaaGreatKB01
import Derived.Test.YtmihnoagagbgaaaGreatKB02
set_option linter.unusedVariables false
set_option linter.unusedSimpArgs false
set_option maxRecDepth 100000
set_option maxHeartbeats 16000000
namespace Go.Proofs.YtmihnoagagbgaaaGreat
open Go.RowKit Go.ChangeShapes Go.WideShapes Go.Proofs.YtmihnoagagbgaaaGreat.Ar Tryz
set_option maxRecDepth 100000
set_option maxHeartbeats 16000000
def uN (x:ae × Int × Int) (w:World) (e:Ending) (w':World):Prop :=
 ∃ A n c,e=.returned (.tuple #[.agg (tN x.1.h x.1.v x.1.c A n c),.int .i64 x.2.1,.int .i64 x.2.2])∧Sl (aa .i8) w' (bin w w') A n c x.1.data∧Below w w w'
theorem uN.none {i e:Int} {w w':World} (hb:Below w w w'):uN (aj,i,e) w (.returned (.tuple #[.agg (tN 0 0 0 none 0 0),.int .i64 i,.int .i64 e])) w':=⟨Option.none,0,0,rfl,Sl.nil _ _ _,hb⟩
theorem vf {α:Type} {t:Ty α} {w w':World} {a b m:Nat} {A:QA} {n cap:Nat} {l:List α} (h:Sl t w (bin a b) A n cap l) (hg:w.grownBy w' (some m)) (hm:m < a) (hle:b≤w.heap.size):Sl t w' (bin a b) A n cap l :=
 h.keep fun x hx=>hg.block x (by have:=hx.2;omega) (fun e=>by have:=sI e;have:=hx.1;omega)
theorem uV (A:QA) (n cap:Nat) (l:List af) (x:ae) (D:QA) (m cm:Nat) (w:World) (hs:Sl ee w (blo w) A n cap l) (hx:ak x) (hd:xA w D m cm x.data) (h300:m≤300) (hf:r4 l) :
  Calls prog 6 #[.slice A n cap,.agg (tN x.h x.v x.c D m cm)] w (uN (uC l x) w):=by
 have hn:=hs.n_eq
 obtain ⟨r,hr⟩:∃ r,uC l x=r:=⟨_,rfl⟩
 rw [hr]
 have RA:=zH (fun w=>av x.h x.v x.c D m cm w hx.h hx.v hx.c (lT hd.cap_le hd.max_le))
 have c1':decide (0 < ab x.h x.v x.c∧ab x.h x.v x.c=m)=x.ok:=by unfold ae.ok;rw [hd.n_eq]
 rw [c1'] at RA
 have SP:=zH (fun w hs=>jJ A n cap l x.h x.v x.c w hs hx.h hx.v hx.c hf)
 have HL:=zH hn
 have HM:=zH hd.n_eq
 have HF:=zH hf.2
 have mx:n≤9223372036854775807:=lT hs.cap_le hs.max_le
 have H:=zW w
 obtain ⟨w1,yw1,BX,k1⟩:=nB w (tN x.h x.v x.c D m cm) 27
 replace H:=zF k1 H
 obtain ⟨w2,yw2,BZ,k2⟩:=nB w1 (tN 0 0 0 none 0 0) 27
 obtain ⟨H,BX⟩:=uz2 k2 H BX
 have l1:=zL yw1
 have l2:=zL yw2
 have NS:=zH ((hs.fut k1).fut k2)
 have HD:=zH ((hd.fut k1).fut k2)
 obtain ⟨ok,hok⟩:∃ b,x.ok=b:=⟨_,rfl⟩
 rw [hok] at RA
 have OK:=zH hok
 have R:=zH hr
 clear hok hs hd hf hn hr c1' k1 k2 hx
 cases ok
 case false =>
  have R:=zH (show r=(aj,-1,5) by rw [← R.o];unfold uC;rw [if_pos OK.o])
  go_in
  go_wp2_with (refine lGJ19 BX.o ?_)
  clear yw1 yw2
  refine qM (RA.o _) fun w3 hb=>?_
  obtain ⟨H,BZ⟩:=uz2 hb H BZ
  clear hb
  go_wp2_with (refine sGJ19 (tN 0 0 0 none 0 0) BZ.o ?_;intro w4 B4 g4)
  have FZ:=Below.grown H.o.out g4 H.o.size (fun k hk=>by have:=sI hk;omega)
  refine gY rfl B4 rfl underlying27 kM rfl ?_
  rw [R.o]
  exact uN.none FZ
 obtain ⟨⟨⟨sl,al,sz⟩,p,code⟩,hq⟩:∃ q,ga l (hvc x)=q:=⟨_,rfl⟩
 rw [show ga l (x.h,x.v,x.c)=((sl,al,sz),p,code) from hq] at SP
 obtain ⟨q1,q2⟩:=ve OK.o hq
 have P1:=zH q1
 have P2:=zH q2
 clear hq q1 q2
 go_in
 go_wp2_with (refine lGJ19 BX.o ?_)
 clear yw1 yw2
 refine qM (RA.o _) fun w3 hb=>?_
 obtain ⟨H,BX,BZ,NS,HD⟩:=uz5 hb H BX BZ NS HD
 clear hb RA
 go_wp2_with (refine lQJ 24 (sN x.h x.v x.c) BX.o ?_)
 refine (SP.o _ NS.o).mono ?_
 rintro e w4 ⟨A1,m1,c1,A2,m2,c2,rfl,s1,s2,hb⟩
 obtain ⟨H,BX,BZ,NS,HD⟩:=uz5 hb H BX BZ NS HD
 have S1:=zH (show Sl dC w4 (blo w4) A1 m1 c1 sl from s1.old)
 have S2:=zH (show Sl (aa .i64) w4 (blo w4) A2 m2 c2 al from s2.old)
 clear hb SP s1 s2
 simp only
 by_cases c0:code=0
 rotate_left
 ·have t2:(code != 0)=true:=by simpa using c0
  have R:=zH (show r=(aj,p,code) by rw [← R.o];exact (P1.o c0).1)
  clear c0 P1 P2
  go_wp2_with (first
   | (refine sF 46 (.tmp 7) (.tmp 25) #[.slice A1 m1 c1,.slice A2 m2 c2,.int .i64 sz] ?_;intro w5 BP k5;obtain ⟨H,BZ⟩:=uz2 k5 H BZ;clear k5)
   | (refine sGJ19 (tN 0 0 0 none 0 0) BZ.o ?_;intro w6 B4 g4))
  have FZ:=Below.grown H.o.out g4 H.o.size (fun k hk=>by have:=sI hk;omega)
  refine gY rfl B4 rfl underlying27 kM rfl ?_
  rw [R.o]
  exact uN.none FZ
 subst c0
 have t2:((0:Int) != 0)=false:=rfl
 obtain ⟨hrun,hsh,hal,hsz,hev⟩:=P2.o rfl
 have bd:=oQ hsh
 have h8:=hsh.few
 have SL:=zH hsh.len
 rw [← hsz] at bd
 obtain ⟨bd1,bd2⟩:=bd
 obtain ⟨N,rfl⟩:∃ N:Nat,sz=N:=⟨sz.toNat,by omega⟩
 have hN:N≤1073741824:=oM
 have e1:=S1.o.n_eq
 have e2:=S2.o.n_eq
 have HR:=zH hrun
 have OKS:=zH hsh
 have AL:=zH hal
 have SZ:=zH hsz
 have R:=zH (show r=uT l (gw l x n) by rw [← R.o,hev,HL.o])
 rw [HL.o] at h8
 have M12:=zH (show m1=n+1∧m2=n+1 by rw [← e1,← e2,SL.o,hal,atTo_len,HL.o];exact ⟨rfl,rfl⟩)
 clear hrun hsh hal hsz hev e1 e2 P1 P2 bd1 bd2
 try simp only [pX]
 go_upto_region 6 with (refine sF 46 (.tmp 7) (.tmp 25) #[.slice A1 m1 c1,.slice A2 m2 c2,.int .i64 N] ?_;intro w5 BP k5;obtain ⟨H,BX,BZ,NS,HD,S1,S2⟩:=uz7 k5 H BX BZ NS HD S1 S2;clear k5)
 have zb:=BP.o.lt
 have zz1:w1.heap.size < w5.heap.size:=BZ.o.lt
 have zH0:=H.o.size
 have FIT:=zH (fun (v:Nat) (hv:v≤n)=>show atV l sl v+szV sl v≤N by have:=ji (L:=List.replicate N 0) OKS.o (by rw [List.length_replicate];exact SZ.o) v (by rw [HL.o];exact hv);rwa [List.length_replicate] at this)
 have PLC:=zH (fun (v:Nat) (hv:v≤n)=>(AL.o ▸ vd OKS.o v (by rw [HL.o];exact hv):al.getD v 0=(atV l sl v:Int)∧ab (sl.getD v (0,0,0)).1 (sl.getD v (0,0,0)).2.1 (sl.getD v (0,0,0)).2.2=(szV sl v:Int)))
 have S1b:=S1
 have S2b:=S2
 have NSb:=NS
 have Hb:=H
 refine wp_region_held_drew (S:=fun w'=>w'.cell? ⟨w4.heap.size,2,none⟩=some (.int .i64 N)∧Blk w' w4.heap.size 46 #[.slice A1 m1 c1,.slice A2 m2 c2,.int .i64 N]∧Below w5 w5 w') kM ?_ (fun hS=>?_)
 ·exact ⟨BP.o.drew.cell 2,BP.o.drew,(qB _ _).drew⟩
 refine tkH 0 rfl (yB 46 (.tmp 7) w4 (fun w hs=>hs.2.1) underlying46) hS ?_
 try simp only [pX]
 refine kH' 1 hS ?_
 refine kH' 2 hS ?_
 refine rH 3 rfl (fun K hK=>?_)
 rw [if_pos (by rfl)]
 refine cE (k:=.i8) (base:=w5.heap.size) (n:=N) (.tmp 35) (.tmp 35) rfl dy .i64 .i64 rfl rfl oM (by unfold maxLen;omega) hS.2.2.size dM ?_
 intro wm own gm
 have OW:=zH (show Own (aa .i8) wm (fun _=>False) w5.heap.size 37 (.slice (some ⟨w5.heap.size,0,none⟩) N N) N (List.replicate N 0) from own)
 refine hK.out _ _ ⟨bF gm hS.1 sM,Blk.grown0 hS.2.1 gm,hS.2.2.grown gm hS.2.2.size sM⟩ (fun hS=>?_)
 clear hK K own gm
 try simp only [pX]
 have zq:w5.heap.size < wm.heap.size:=(OW.o.lt _ rfl).2
 refine kH' 4 hS ?_
 refine rH 5 rfl (fun K hK=>?_)
 go_simp
 obtain ⟨w6,hw6,BG,hb⟩:=nB wm (rmC A1 m1 c1 A2 m2 c2 N w5.heap.size N) 53
 rw [hw6]
 have z6:=hb.size
 replace OW:=zH (OW.o.below hb (lR _) (fun _ h=>h.elim))
 refine hK.out _ _ ⟨ao hb hS.1,Blk.later hS.2.1 hb,ag hb hS.2.2⟩ (fun hS=>?_)
 clear hK K hb hw6
 try simp only [pX]
 refine kH' 6 hS ?_
 refine wpAnyH_done kM ?_ _
 replace H:=zF hS.2.2 H
 replace BX:=zF hS.2.2 BX
 replace BZ:=zF hS.2.2 BZ
 replace NS:=zF hS.2.2 NS
 replace HD:=zF hS.2.2 HD
 replace S1:=zF hS.2.2 S1
 replace S2:=zF hS.2.2 S2
 have F5:=zH hS.2.2
 clear hS BP
 have VA:=zH (fun (v:Nat) (hv:v≤n) (h1:1≤szV sl v) w hb k1 k2=>uD wm.heap.size A1 m1 c1 A2 m2 c2 N w5.heap.size N sl al w hb k1 k2 v _ rfl (by rw [M12.o.1];omega) (by rw [M12.o.2];omega) (atV l sl v) (szV sl v) (PLC.o v hv).1 (PLC.o v hv).2 h1 (FIT.o v hv) hN)
 have V0:=zH (uW HR.o OK.o)
 have sz0:szV sl 0=m:=by rw [uF V0.o (lR 0) (by rw [SL.o];omega)];exact HM.o
 have m0:1≤m:=by have:=(uE OK.o).2;rw [HM.o] at this;exact this
 obtain ⟨ad,rfl,X0r,X2r⟩:=uX HD.o m0
 have X0:=zH X0r
 have X2:=zH X2r
 have X1:=zH (show x.data.length=Nat.min m m by rw [HM.o];exact (Nat.min_self _).symm)
 have X3:=zH (show atV l sl 0+x.data.length≤N by have:=FIT.o 0 (zl _);rw [sz0] at this;rw [HM.o];exact this)
 have VZ:=zH (fun w hb k1 k2=>VA.o 0 (zl _) (by rw [sz0];exact m0) w hb k1 k2)
 rw [sz0] at VZ
 obtain ⟨⟨y1,y2,y3⟩,hy⟩:∃ y,sl.getD 0 (0,0,0)=y:=⟨_,rfl⟩
 rw [hy] at VZ
 clear X0r X2r hy
 have hfd:∀ w:World,(Instr.field 27 (.agg (tN y1 y2 y3 (some ⟨w5.heap.size,atV l sl 0,none⟩) m m)) 1).run prog w=.ok (.slice (some ⟨w5.heap.size,atV l sl 0,none⟩) m m) w:=fun _=>by kernel_rfl
 go_upto_region 7 with fail
 refine wp_region_any kM ?_
 refine wpAny_take (i:=0) (v:=?_) rfl (by as_aux_lemma=>kernel_rfl) (by as_aux_lemma=>kernel_rfl) (by as_aux_lemma=>kernel_rfl) (fun _ _ _ h=>h) (Or.inl ⟨by rfl,?_⟩) ?_
 rotate_left
 ·intro w;go_simp;try with_reducible rfl
 try simp only [pX]
 refine wpAny_take (i:=3) (v:=?_) rfl (by as_aux_lemma=>kernel_rfl) (by as_aux_lemma=>kernel_rfl) (by as_aux_lemma=>kernel_rfl) (fun _ _ _ h=>h) (Or.inl ⟨by rfl,?_⟩) ?_
 rotate_left
 ·intro w;go_simp;try with_reducible rfl
 try simp only [pX]
 refine wpAny_enterT (fun w'=>w'.cell? ⟨w.heap.size,3,none⟩=some (.slice (some ad) m cm)∧Below w6 w6 w') 5 ?_ (fun hS=>?_)
 ·exact ⟨BX.o.drew.cell 3,(qB _ _).drew⟩
 refine kT' 4 hS ?_
 refine rT 1 (fun K hK=>?_)
 go_simp
 refine qM (VZ.o _ (BG.o.fut hS.2) (S1.o.fut hS.2) (S2.o.fut hS.2)) fun wv hb=>?_
 refine xK hK (by first|exact zR hb hS|exact ⟨ao hb hS.1,ag hb hS.2⟩|exact ag hb hS) fun hS=>?_
 clear hK K
 refine kT' 2 hS ?_
 refine wpAnyT_tail _ _ rfl rfl kM ?_
 have O3:=OW.o.below hS.2 (lR _) (fun _ h=>h.elim)
 refine iC (k:=.i8) rfl (.tmp 41) (.tmp 43) 25 25 rfl 37 underlying25 kM O3 (atV l sl 0) m m rfl ad m cm rfl x.data X0.o X1.o (fun j hj=>ao hS.2 (X2.o j hj)) X3.o ?_
 intro w7 own7 g7
 have zv:=hS.2.size
 have F7:=zH ((ag hS.2 F5.o).grown g7 oM (fun j e=>by have:=sI e;omega))
 have OL:=zH own7
 replace BG:=zH ((BG.o.fut hS.2).away g7 oM)
 replace BZ:=zH ((BZ.o.fut hS.2).away g7 oM)
 have RK:=zH (fN.first (L:=List.replicate N 0) OKS.o (by rw [List.length_replicate];exact SZ.o) (by rw [sz0];exact HM.o))
 clear hS own7 g7 O3 hfd VZ X0 X1 X2 X3 OW BX HD
 go_wp2
 go_loopw [47] (fun ii wr=>∃ (k:Nat) (out:List ae) (L:List Int),k≤n∧ii=.int .i64 k∧gw l x k=.on out∧uG out sl k∧fN l sl out k L∧Own (aa .i8) wr (fun _=>False) w5.heap.size 37 (.slice (some ⟨w5.heap.size,0,none⟩) N N) N L∧Blk wr wm.heap.size 53 (rmC A1 m1 c1 A2 m2 c2 N w5.heap.size N)∧Blk wr w1.heap.size 27 (tN 0 0 0 none 0 0)∧Below w5 w5 wr) (fun ii _=>n - (intOf ii).toNat)
 case atStart=>exact ⟨0,[x],(splice (List.replicate N 0) (atV l sl 0) x.data),zl _,rfl,rfl,V0.o,RK.o,OL.o,BG.o,BZ.o,F7.o⟩
 case round =>
  obtain ⟨k,out,L,hk,rfl,hrv,hv,hrm,hown,hgr,hz,hb5⟩:=hrel
  clear F7 BG BZ OL RK
  have RV:=zH hrv
  have VK:=zH hv
  have RK:=zH hrm
  have OL:=zH hown
  have BG:=zH hgr
  have BZ:=zH hz
  have F7:=zH hb5
  clear hrv hv hrm hown hgr hz hb5
  by_cases hlt:k < n
  ·have p1:(k:Int) < (n:Int):=oM
   have S1r:=zH (S1b.o.later F7.o (lR _))
   have S2r:=zH (S2b.o.later F7.o (lR _))
   obtain ⟨d,b0,off,W,nw,cw,B,nb,cb,hd,rfl,_,_,hin,hw8,hw32,hrg⟩:=(NSb.o.later F7.o (lR _)).node_at k hlt
   have hsz:=HF.o d (mG hd)
   have q8:=hw8.n_eq
   have q32:=hw32.n_eq
   have ht:=OKS.o.there k (by rw [HL.o];exact hlt)
   rw [show l.getD k bi=d by rw [gD,hd];rfl] at ht
   obtain ⟨p2,p3,p4,p5⟩:=gV ht
   obtain ⟨ia,hia⟩:∃ ia:Nat,d.a=ia:=⟨d.a.toNat,by omega⟩
   obtain ⟨ib,hib⟩:∃ ib:Nat,aU d=ib:=⟨(aU d).toNat,by omega⟩
   obtain ⟨ta,hta⟩:∃ t,out.getD ia aj=t:=⟨_,rfl⟩
   obtain ⟨tb,htb⟩:∃ t,out.getD ib aj=t:=⟨_,rfl⟩
   obtain ⟨⟨y,code⟩,hy⟩:∃ q,dn d ta tb=q:=⟨_,rfl⟩
   have MV:eK d out=(y,code):=by unfold eK;rw [hia,hib,Int.toNat_natCast,Int.toNat_natCast,hta,htb,hy]
   have nx:=kA RV.o hd
   rw [MV] at nx
   simp only at nx
   have la:ia≤k:=oM
   have lb:ib≤k:=oM
   have oka:=VK.o.ok ia la
   have okb:=VK.o.ok ib lb
   have xa:=VK.o.sh ia la
   have xb:=VK.o.sh ib lb
   have na:=uF VK.o la (by rw [SL.o,HL.o];omega)
   have nb':=uF VK.o lb (by rw [SL.o,HL.o];omega)
   have va:=RK.o.holds ia la (.inr ⟨k,d,lR _,hd,.inl hia.symm⟩)
   have vb:=RK.o.holds ib lb (.inr ⟨k,d,lR _,hd,.inr hib.symm⟩)
   rw [hta] at oka xa na va
   rw [htb] at okb xb nb' vb
   have ea:=(PLC.o ia oM).2
   have eb:=(PLC.o ib oM).2
   rw [xa] at ea
   rw [xb] at eb
   have NV:=zH (fun (h:code=0)=>uY HR.o (by rw [HL.o];exact hlt) VK.o hd (by rw [MV];exact h))
   rw [MV] at NV
   simp only at NV
   have LY:=zH (fun (h:code=0)=>show y.data.length=szV sl (k+1)∧1≤szV sl (k+1) from by
    have v:=NV.o h
    have q:=uF v (lR (k+1)) (by rw [SL.o,HL.o];omega)
    have e:(out ++ [y]).getD (k+1) aj=y:=by rw [gD,List.getElem?_append_right (by rw [VK.o.len];exact lR _),VK.o.len,Nat.sub_self];rfl
    have o:=(uE (v.ok (k+1) (lR _))).2
    rw [e] at q o
    omega)
   have DN:=zH (fun w hb h1 h2 own hw hbi=>uZ wm.heap.size A1 m1 c1 A2 m2 c2 N w5.heap.size N w5.heap.size sl al L w hb h1 h2 own hN d W nw cw B nb cb hin hw hbi ⟨by omega,by omega⟩ y code k ia ib hia hib ta tb oka okb (by have:=M12.o;omega) (by have:=M12.o;omega) (by have:=M12.o;omega) (atV l sl ia) (atV l sl ib) (atV l sl (k+1)) (szV sl ia) (szV sl ib) (szV sl (k+1)) xa xb _ rfl ea eb (PLC.o (k+1) oM).2 (by rw [na];exact (uE oka).2) (by rw [nb'];exact (uE okb).2) (fun h=>(LY.o h).2) (PLC.o ia oM).1 (PLC.o ib oM).1 (PLC.o (k+1) oM).1 (FIT.o ia oM) (FIT.o ib oM) (FIT.o (k+1) oM) va vb hy (fun h=>(LY.o h).1))
   have LN:=zH (OL.o.length dM)
   have RG:=zH hrg
   have W8:=zH hw8
   have W32:=zH hw32
   have NX:=zH nx
   clear hd hin hw8 hw32 hrg nx MV oka okb xa xb na nb' va vb ea eb hta htb hy hia hib ht hsz
   go_wp2_with (first
    | (refine lM 42 (.tmp 50) RG.o underlying42 ?_)
    | (refine sF 42 (.tmp 12) (.tmp 51) (nD d W nw cw B nb cb) ?_;intro w8 BN k8;obtain ⟨BG,BZ,S1r,S2r,W8,W32⟩:=uz6 k8 BG BZ S1r S2r W8 W32;replace OL:=zH (OL.o.below k8 (lR _) (fun _ h=>h.elim));replace F7:=zH (ag k8 F7.o);clear k8 RG)
    | (refine lGJ19 BN.o ?_))
   refine (DN.o _ BG.o S1r.o S2r.o OL.o W8.o W32.o).mono ?_
   rintro e w9 ⟨rfl,own9,g9⟩
   have F9:=zH (F7.o.grown g9 F7.o.size (fun j e=>by have:=sI e;omega))
   replace BG:=zA g9 BG
   replace BZ:=zA g9 BZ
   clear DN BN W8 W32 g9 OL F7 S1r S2r
   by_cases c0:code=0
   ·have o9:=own9
    rw [if_pos c0] at o9
    have OL:=zH o9
    have v1:=NV.o c0
    have l1':=(LY.o c0).1
    have r1:=RK.o.step (t:=y) OKS.o (by rw [LN.o];exact SZ.o) (by rw [HL.o];exact hlt) VK.o.len l1'
    have n1:=NX.o
    rw [if_neg (by simpa using c0)] at n1
    have Z:=zH (And.intro v1 (And.intro r1 n1))
    subst c0
    clear own9 o9 v1 r1 n1 l1' NV LY NX RK VK RV
    go_wp2
    exact ⟨⟨k+1,out ++ [y],_,by omega,by go_num,Z.o.2.2,Z.o.1,Z.o.2.1,OL.o,BG.o,BZ.o,F9.o⟩,by simp [intOf];omega⟩
   ·have t3:(code != 0)=true:=by simpa using c0
    have n1:=NX.o
    rw [if_pos c0] at n1
    have R2:=zH (show r=(aj,(k:Int),code) by rw [R.o];rw [← HL.o] at hlt ⊢;exact vc n1 hlt)
    clear own9 n1 c0 NV LY NX RK VK RV R
    go_wp2_with (refine sGJ19 (tN 0 0 0 none 0 0) BZ.o ?_;intro w10 B10 g10)
    have FZ:=Below.grown (ai Hb.o.out F9.o Hb.o.size) g10 (by have:=F9.o.size;omega) (fun j hj=>by have:=sI hj;omega)
    refine gY rfl B10 rfl underlying27 kM rfl ?_
    rw [R2.o]
    exact uN.none FZ
  ·have en:n=k:=oM
   subst en
   have S1r:=zH (S1b.o.later F7.o (lR _))
   have S2r:=zH (S2b.o.later F7.o (lR _))
   obtain ⟨t,ht⟩:∃ t,out.getD n aj=t:=⟨_,rfl⟩
   have okt:=VK.o.ok n (lR _)
   have xt:=VK.o.sh n (lR _)
   have nt:=uF VK.o (lR n) (by rw [SL.o,HL.o];omega)
   have vt:=RK.o.holds n (lR _) (.inl HL.o.symm)
   rw [ht] at okt xt nt vt
   have R2:=zH (show r=(t,(n:Int),0) by rw [R.o,RV.o];show (out.getD l.length aj,(l.length:Int),(0:Int))=_;rw [HL.o,ht])
   have VN:=zH (fun w hb k1 k2=>VA.o n (lR _) (by rw [nt];exact (uE okt).2) w hb k1 k2)
   rw [xt] at VN
   have fN:=FIT.o n (lR _)
   have DT:=zH (uJ OL.o _ _ fN)
   rw [show (L.drop (atV l sl n)).take (szV sl n)=t.data from vt] at DT
   obtain ⟨s,hs⟩:∃ s,szV sl n=s:=⟨_,rfl⟩
   obtain ⟨p0,hp0⟩:∃ p,atV l sl n=p:=⟨_,rfl⟩
   rw [hs,hp0] at VN fN DT
   have TN:=zH (fun w ha=>(mU t (some ⟨w5.heap.size,p0,none⟩) s s w okt ha oM).mono (fun e w' h=>(h:∃ A n c,e=.returned (.tuple #[.agg (tN t.h t.v t.c A n c),.int .i64 0])∧Sl (aa .i8) w' (bin w w') A n c t.data∧Below w w w')))
   have zr:=F7.o.size
   clear okt xt nt vt ht hs hp0 RK VK RV OL VA PLC FIT R V0 NSb NS S1 S2 S1b S2b HR AL SZ H F5
   go_wp2_with fail
   refine qM (VN.o _ BG.o S1r.o S2r.o) fun w8 hb=>?_
   have zw8:=hb.size
   obtain ⟨BZ,DT⟩:=uz2 hb BZ DT
   replace F7:=zH (ag hb F7.o)
   clear hb VN BG S1r S2r
   simp only
   go_wp2_with (first
    | (refine sF 27 (.tmp 14) (.tmp 65) (tN t.h t.v t.c (some ⟨w5.heap.size,p0,none⟩) s s) ?_;intro w9 BY k9;have zw9:=k9.size;obtain ⟨BZ,DT⟩:=uz2 k9 BZ DT;replace F7:=zH (ag k9 F7.o);have cY:=BY.o.cell 3;clear k9)
    | (refine lQJ 24 (sN t.h t.v t.c) BY.o ?_))
   refine (TN.o _ DT.o).mono ?_
   rintro e w10 ⟨A9,n9,c9,rfl,s9,hb⟩
   have zw10:=hb.size
   have S9:=zH s9
   replace BZ:=zF hb BZ
   replace F7:=zH (ag hb F7.o)
   clear hb TN BY DT s9 cY
   go_wp2_with (first
    | (refine sF 27 (.tmp 15) (.tmp 72) (tN t.h t.v t.c A9 n9 c9) ?_;intro w11 BW k11;have zw11:=k11.size;replace BZ:=zF k11 BZ;replace S9:=zH (S9.o.below k11 (fun _ h=>h.2));replace F7:=zH (ag k11 F7.o);clear k11)
    | (refine lGJ19 BW.o ?_)
    | (refine sGJ19 (tN t.h t.v t.c A9 n9 c9) BZ.o ?_;intro w12 B12 g12))
   have zw12:=g12.size
   have FZ:=Below.grown (ai Hb.o.out F7.o Hb.o.size) g12 oM (fun j hj=>by have:=sI hj;omega)
   refine gY rfl B12 rfl underlying27 kM rfl ?_
   rw [R2.o]
   exact ⟨A9,n9,c9,rfl,(vf S9.o g12 oM oM).more (fun b h=>⟨lT (by have:=Hb.o.size;omega) h.1,Nat.lt_of_lt_of_le h.2 oM⟩),FZ⟩
end Go.Proofs.YtmihnoagagbgaaaGreat
