/-
  The walk of the law WalkStarts (layer 36).
-/
import Derived.Test.YthjmghjfklkmbaaGreatJ44
import Derived.Test.YthjmghjfklkmbaaGreatJ45
import Derived.Test.YthjmghjfklkmbaaGreatJ47
set_option linter.unusedVariables false
set_option linter.unusedSimpArgs false
namespace Go.Proofs.YthjmghjfklkmbaaGreat
open Go.RowKit Go.ChangeShapes Go.WideShapes
set_option maxRecDepth 100000
set_option maxHeartbeats 16000000
theorem walkStarts_any (u:Bun) (A:Option Addr) (n cap:Nat) (t:Tensor) (D:Option Addr) (m c:Nat) (w:World) (hu:Sl tModel w (blo w.heap.size) A n cap u.models) (hi:inU u) (ht:TensorIn t) (hd:Sl (tInt .i8) w (blo w.heap.size) D m c t.data) :
  Calls Tryz.prog 3 #[.agg #[.int .i64 u.h,.int .i64 u.v,.int .i64 u.c,.int .i64 u.cl,.slice A n cap],.agg (tN t.h t.v t.c D m c)] w fun e w'=>e=.returned (.bool true)∧Below w.heap.size w w':=by
 have KN:=zH (fun w=>known36_any w)
 have FW:=zH (fun w h=>few31_any u A n cap w h)
 have NB:=zH (fun w h hf hz=>new_bad u A n cap w h hi hf hz)
 have NO:=zH (fun w h hf hz=>new_ok u A n cap w h hi hf hz)
 have VB:=zH (fun w h hf=>rvbundle_any u A n cap w h hi hf)
 have CT:=zH (fun w h hf ok=>rcostTable_any u A n cap w h hf ok)
 have SR:=zH (fun w h hf=>rsteps36_any u A n cap w h hf)
 have TN:=zH (fun w=>netTable_nil w)
 have ST:=zH (fun g l0 x4 x5 x6 w hb ha hn=>start_any t g u.h u.v u.c l0 x4 x5 x6 D m c w hb ht ha hn)
 have RT:=zH (fun w=>rtensorRight_any t.h t.v t.c D m c w ht.h ht.v ht.c (Nat.le_trans hd.cap_le hd.max_le))
 have TO:=zH (ok_of hd.n_eq)
 rw [TO.out] at RT
 have m9:m≤9223372036854775807:=Nat.le_trans hd.cap_le hd.max_le
 have n9:n≤9223372036854775807:=Nat.le_trans hu.cap_le hu.max_le
 have HU:=zH (Old.now hu)
 have HD:=zH (Old.now hd)
 have LU:=zH hu.n_eq
 have TIN:=zH ht
 have OKV:=zH (fun hz=>bundleV_ok (u:=u) hz)
 have HL:=zH (fun hf=>tab_rows (u:=u) hf)
 have TL:=zH (tab_len u)
 have LT:=zH (lens_tab u)
 obtain ⟨h0,hh⟩:∃ x,u.h=x:=⟨_,rfl⟩
 obtain ⟨v0,hv⟩:∃ x,u.v=x:=⟨_,rfl⟩
 obtain ⟨c0,hc⟩:∃ x,u.c=x:=⟨_,rfl⟩
 obtain ⟨l0,hl⟩:∃ x,u.cl=x:=⟨_,rfl⟩
 rw [hh,hv,hc,hl]
 have NAT:=zH (fun S g w (h:NetAt u S g w)=>show ∃ A n cap B cb C cc,Blk w g 84 #[.int .i64 h0,.int .i64 v0,.int .i64 c0,.int .i64 l0,.slice A n cap,.slice B n cb,.slice C n cc]∧Sl tRow w S B n cb (tableC u) by
  obtain ⟨A,n,cap,B,cb,C,cc,h1,-,h2,-⟩:=h.out
  rw [hh,hv,hc,hl] at h1
  exact ⟨A,n,cap,B,cb,C,cc,h1,h2⟩)
 simp only [hh,hv,hc,hl] at FW NB NO VB CT SR ST
 obtain ⟨⟨x1,x2,x3,x4⟩,hx⟩:∃ x,bundleV u=x:=⟨_,rfl⟩
 simp only [hx] at VB NB NO OKV
 obtain ⟨tb,htb⟩:∃ x,tableC u=x:=⟨_,rfl⟩
 simp only [htb] at CT HL TL LT NAT
 obtain ⟨tk,htk⟩:∃ x,t.ok=x:=⟨_,rfl⟩
 rw [htk] at RT
 have EQ:=zH (fun w=>run_eql_st3 (P:=Tryz.prog) (t:=23) (k0:=.i64) (k1:=.i64) (k2:=.i64) w Tryz.underlying23 (by kernel_rfl) (by decide) ⟨rfl,rfl,rfl⟩ Tryz.underlying3 Tryz.underlying3 Tryz.underlying3 (by kernel_rfl) (by kernel_rfl) (by kernel_rfl) t.h t.v t.c h0 v0 c0)
 obtain ⟨q,hq⟩:∃ q,([t.h,t.v,t.c] == [h0,v0,c0])=q:=⟨_,rfl⟩
 have FV:=zH (show fitsV t (h0,v0,c0)=(tk && q) by unfold fitsV;rw [htk];simp only [hq])
 simp only [hq] at EQ
 simp only [FV.out] at ST
 obtain ⟨th,hth⟩:∃ x,t.h=x:=⟨_,rfl⟩
 obtain ⟨tv,htv⟩:∃ x,t.v=x:=⟨_,rfl⟩
 obtain ⟨tc,htc⟩:∃ x,t.c=x:=⟨_,rfl⟩
 have TE:=zH (And.intro hth (And.intro htv htc))
 rw [hth,htv,htc]
 simp only [hth,htv,htc] at RT ST EQ
 unfold RetFew at FW
 unfold RetTab at CT
 unfold RetPt ptCells at ST
 clear hh hv hc hl hx htb htk hq hth htv htc TO FV hu hi ht hd
 have H:=zH (Far.refl w)
 obtain ⟨w1,hw_w1,B1,k1⟩:=nB w #[.int .i64 h0,.int .i64 v0,.int .i64 c0,.int .i64 l0,.slice A n cap] 26
 replace H:=zN k1 H B1
 clear B1 k1
 obtain ⟨w2,hw_w2,B2,k2⟩:=nB w1 (tN th tv tc D m c) 29
 replace H:=zN k2 H B2
 clear B2 k2
 go_enter Tryz.func3,Tryz.ntmps3
 go_wp2_with (refine lB 26 (.tmp 2) w.heap.size H.out.1.2 Tryz.underlying26 ?_)
 refine (FW.out _ (HU.out.fut H.out.1.1.out).all).mono ?_
 rintro e w3 ⟨f,rfl,hf,hb⟩
 replace H:=zF hb H
 have FU:=zH hf
 clear hb hf FW hw_w1 hw_w2
 have cT:=fun i=>H.out.2.cell i
 cases f with
 | false =>
  clear FU
  go_wp2_with fail
  refine (KN.out _).mono ?_
  rintro e wk ⟨rfl,hb⟩
  replace H:=zF hb H
  clear hb
  go_wp2_with fail
  go_ret
  exact ⟨rfl,H.out.1.1.out⟩
 | true =>
 by_cases m3:300 < m
 ·have t3:decide (300 < (m:Int))=true:=by simp;omega
  go_wp2_with fail
  refine (KN.out _).mono ?_
  rintro e wk ⟨rfl,hb⟩
  replace H:=zF hb H
  clear hb
  go_wp2_with fail
  go_ret
  exact ⟨rfl,H.out.1.1.out⟩
 have t3:decide (300 < (m:Int))=false:=by simp;omega
 have HF:=zH (FU.out rfl)
 by_cases hz:x1=0
 rotate_left
 ·have t4:(x1 != 0)=true:=by simpa using hz
  clear OKV NO ST RT CT SR
  go_wp2_with (refine lB 26 (.tmp 2) w.heap.size H.out.1.2 Tryz.underlying26 ?_)
  refine (NB.out _ (HU.out.fut H.out.1.1.out).all HF.out hz).mono ?_
  rintro e w4 ⟨rfl,hb⟩
  replace H:=zF hb H
  clear hb cT hz t3
  go_wp2_with (refine lB 26 (.tmp 2) w.heap.size H.out.1.2 Tryz.underlying26 ?_)
  refine (VB.out _ (HU.out.fut H.out.1.1.out).all HF.out).mono ?_
  rintro e w5 ⟨rfl,hb⟩
  replace H:=zF hb H
  clear hb
  have e5:(x1 == x1)=true:=by simp
  go_wp2_with (refine sF 37 (.tmp 7) (.tmp 30) #[.int .i64 x1,.int .i64 x2,.int .i64 x3,.int .i64 x4] ?_;intro w6 b6 k6;replace H:=zN k6 H b6;clear b6;have cF:=fun i=>H.out.2.cell i)
  refine (TN.out _).mono ?_
  rintro e w7 ⟨rfl,rfl⟩
  go_wp2_with fail
  refine (KN.out _).mono ?_
  rintro e wk ⟨rfl,hb⟩
  replace H:=zF hb H
  clear hb
  go_wp2_with fail
  go_ret
  exact ⟨rfl,H.out.1.1.1.out⟩
 subst hz
 have OK:=zH (OKV.out (by trivial))
 clear NB OKV TN
 go_wp2_with (refine lB 26 (.tmp 2) w.heap.size H.out.1.2 Tryz.underlying26 ?_)
 refine (NO.out _ (HU.out.fut H.out.1.1.out).all HF.out (by trivial)).mono ?_
 rintro e w4 ⟨g,rfl,hg,hna,hb⟩
 replace H:=zF hb H
 obtain ⟨A1,n2,c1,B,cb,C,cc,hblk,hrow⟩:=NAT.out _ _ _ hna
 have NT:=zH (And.intro hblk (Old.now hrow.old))
 have N2:n2=n:=by rw [← hrow.n_eq,TL.out,LU.out]
 subst N2
 clear hb cT t3 NO NAT hna hblk hrow hg
 go_wp2_with (refine lB 26 (.tmp 2) w.heap.size H.out.1.2 Tryz.underlying26 ?_)
 refine (VB.out _ (HU.out.fut H.out.1.1.out).all HF.out).mono ?_
 rintro e w5 ⟨rfl,hb⟩
 replace H:=zF hb H
 replace NT:=zF hb NT
 clear hb VB
 go_wp2_with (first
  | (refine sF 37 (.tmp 7) (.tmp 30) #[.int .i64 0,.int .i64 x2,.int .i64 x3,.int .i64 x4] ?_;intro w6 b6 k6;replace H:=zF k6 H;replace NT:=zF k6 NT;have cF:=fun i=>b6.out.cell i)
  | (refine lB 29 (.tmp 3) w1.heap.size H.out.2 Tryz.underlying29 ?_))
 clear cF b6
 refine (ST.out g _ _ _ _ _ NT.out.1 (HD.out.fut H.out.1.1.out).all (by omega)).mono ?_
 obtain ⟨p,hp⟩:∃ p:Pt,(if (tk && q)=true then (⟨0,0,0,t,t⟩:Pt) else noPoint)=p:=⟨_,rfl⟩
 obtain ⟨cd,hcd⟩:∃ k:Int,(if (tk && q)=true then (0:Int) else 5)=k:=⟨_,rfl⟩
 rw [hp,hcd]
 rintro e w7 ⟨A5,n5,c5,B5,m5,d5,rfl,s1,s2,hb⟩
 replace H:=zF hb H
 replace NT:=zF hb NT
 have SS:=zH (And.intro (Old.now s1.old) (Old.now s2.old))
 have PP:=zH (And.intro hp hcd)
 clear hb s1 s2 ST hp hcd
 go_wp2_with (first
  | (refine sF 42 (.tmp 8) (.tmp 55) #[.int .i64 p.model,.int .i64 p.block,.int .i64 p.spent,.int .i64 p.input.h,.int .i64 p.input.v,.int .i64 p.input.c,.slice A5 n5 c5,.int .i64 p.value.h,.int .i64 p.value.v,.int .i64 p.value.c,.slice B5 m5 d5] ?_;intro w8 b8 k8;replace H:=zN k8 H b8;replace NT:=zF k8 NT;replace SS:=zF k8 SS;clear b8)
  | (refine lB 26 (.tmp 2) w.heap.size H.out.1.1.2 Tryz.underlying26 ?_))
 refine (CT.out _ (HU.out.fut H.out.1.1.1.out).all HF.out OK.out).mono ?_
 rintro e w9 ⟨A6,n6,c6,rfl,q6,hb⟩
 replace H:=zF hb H
 replace NT:=zF hb NT
 replace SS:=zF hb SS
 obtain rfl:n6=n2:=by rw [← q6.n_eq,TL.out,LU.out]
 have T6:=zH (Old.now q6.old)
 clear hb q6 CT
 have n4:n6≤4:=by have:=HF.out.1;rw [LU.out] at this;exact this
 go_wp2_with fail
 refine (netTable_any g _ B n6 cb tb _ NT.out.1 rfl NT.out.2.all (by omega) (HL.out HF.out)).mono ?_
 rintro e w10 ⟨A7,n7,c7,rfl,q7,hb⟩
 replace H:=zF hb H
 replace NT:=zF hb NT
 replace SS:=zF hb SS
 replace T6:=zF hb T6
 obtain rfl:n7=n6:=by rw [← q7.n_eq,TL.out,LU.out]
 have T7:=zH (Old.now q7.old)
 clear hb q7
 go_upto_region 10 with fail
 have e1:((n7:Int) != (n7:Int))=false:=by simp
 have e2:(((lens u.models:Nat):Int) != ((lens u.models:Nat):Int))=false:=by simp
 have R0:=zH (fun z:Ext w10=>range_blk (off:=0) (vs:=[.int .i64 h0,.int .i64 v0,.int .i64 c0,.int .i64 l0,.slice A n7 cap]) (H.out.1.1.2.ext z) rfl)
 have E1:=zH (fun z:Ext w10=>calls_ext z (netSteps_any g _ B n7 cb tb z.1 (NT.out.1.ext z) rfl (NT.out.2.fut z.2).all (by omega) (HL.out HF.out)))
 rw [LT.out] at E1
 have E2:=zH (fun z:Ext w10=>calls_ext z (SR.out z.1 ((HU.out.fut H.out.1.1.1.out).fut z.2).all HF.out))
 refine wp_region_ext w10 (by kernel_rfl) (by kernel_rfl) (Below.refl _ _) ?_
 repeat (go_big_quiet_step ((with_reducible exact E1.out _)))
 refine wpQuiet_load_mid (by kernel_rfl) 26 (.tmp 2) rfl w.heap.size 0 rfl _ _ (by rintro _ ⟨z,rfl⟩;exact R0.out z) Tryz.underlying26 rfl (by kernel_rfl) ?_
 simp only [pX]
 repeat (go_big_quiet_step ((with_reducible exact E2.out _)))
 refine wpQuiet_nil ?_
 rintro wa ⟨⟨_,hb⟩,rfl⟩
 replace H:=zF hb H
 replace NT:=zF hb NT
 replace SS:=zF hb SS
 replace T6:=zF hb T6
 replace T7:=zF hb T7
 clear hb R0 E1 E2 e1 e2 SR
 go_wp2_with fail
 go_loopw [13] (fun i wr=>∃ k:Nat,k≤n7∧i=.int .i64 k∧Below wa.heap.size wa wr) (fun i _=>n7 - (intOf i).toNat)
 case atStart=>exact ⟨0,Nat.zero_le _,rfl,Below.refl _ _⟩
 case round =>
  obtain ⟨k,hk,rfl,hbr⟩:=hrel
  obtain ⟨wo,hwo⟩:∃ x,x=wr:=⟨_,rfl⟩
  subst hwo
  have GR:=zH hbr
  replace H:=zF hbr H
  replace SS:=zF hbr SS
  replace T6:=zF hbr T6
  replace T7:=zF hbr T7
  clear hbr
  by_cases hlt:k < n7
  ·have p1:(k:Int) < (n7:Int):=by omega
   have gk:IntKind.i64.wrap ((k:Int)+1)=((k+1:Nat):Int):=(IntWalk.i64_in _ (by omega)).trans (by simp)
   obtain ⟨r,g6,o6,v6,hx,hA,-,-,hr,hc6⟩:=T6.out.all.cell1 rfl k hlt
   obtain ⟨A8,c8,e,r6⟩:=tSlice_iff.1 hr
   simp only [List.cons.injEq,and_true] at e
   subst e hA
   obtain ⟨r',g7,o7,v7,hx',hA,-,-,hr,hc7⟩:=T7.out.all.cell1 rfl k hlt
   obtain ⟨A9,c9,e,r7⟩:=tSlice_iff.1 hr
   simp only [List.cons.injEq,and_true] at e
   subst e hA
   obtain rfl:r=r':=by rw [hx] at hx';exact Option.some.inj hx'
   have E1:=zH (fun z:Ext wo=>calls_ext z (samei_eq A9 A8 r.length c9 r.length c8 r z.1 (r7.fut z.2) (r6.fut z.2)))
   have ca:∀ z:Ext wo,z.1.cell? ⟨g6,o6+k,none⟩=some (.slice A8 r.length c8):=fun z=>cell_later z.2 hc6
   have cb':∀ z:Ext wo,z.1.cell? ⟨g7,o7+k,none⟩=some (.slice A9 r.length c9):=fun z=>cell_later z.2 hc7
   clear hx hx' hr r6 r7 hc6 hc7
   go_upto_region 15 with fail
   refine wp_region_ext wo (by kernel_rfl) (by kernel_rfl) (Below.refl _ _) ?_
   repeat (go_big_quiet_step ((with_reducible exact E1.out _)))
   refine wpQuiet_nil ?_
   rintro wb ⟨⟨_,hb⟩,rfl⟩
   have GB:=zH (below_later hb GR.out)
   clear hb ca cb' E1
   go_wp2_with fail
   exact ⟨⟨k+1,by omega,by go_num,GB.out⟩,by simp [intOf];omega⟩
  ·obtain rfl:n7=k:=by omega
   have p1:¬ (n7:Int) < (n7:Int):=by omega
   clear T6 T7 NT HL
   go_wp2_with (refine lB 29 (.tmp 3) w1.heap.size H.out.1.2 Tryz.underlying29 ?_)
   refine (RT.out _).mono ?_
   rintro e wb ⟨rfl,hb⟩
   replace H:=zF hb H
   replace SS:=zF hb SS
   clear hb RT
   cases tk with
   | false =>
    obtain ⟨rfl,rfl⟩:=(show noPoint=p∧(5:Int)=cd by simpa using PP.out)
    have OF:=zH (fun w=>of36_any noPoint A5 B5 n5 c5 m5 d5 w)
    have S36:=zH (fun w h1 h2=>same36_eq noPoint A5 B5 none none n5 c5 m5 d5 0 0 0 0 w h1 h2 (Sl.nil _ _ _) (Sl.nil _ _ _))
    dsimp only [ptCells,noPoint,noTensor] at OF S36 H SS
    go_wp2_with (refine wpList_load_midw (by kernel_rfl) 42 (.tmp 8) rfl w7.heap.size 0 rfl [.int .i64 0,.int .i64 0,.int .i64 0,.int .i64 0,.int .i64 0,.int .i64 0,.slice A5 n5 c5,.int .i64 0,.int .i64 0,.int .i64 0,.slice B5 m5 d5] _ (range_blk H.out.2 rfl) Tryz.underlying42 rfl (by kernel_rfl) ?_)
    refine (OF.out _).mono ?_
    rintro e we ⟨rfl,hb⟩
    replace H:=zF hb H
    replace SS:=zF hb SS
    clear hb OF
    go_wp2_with fail
    refine (S36.out _ SS.out.1.all SS.out.2.all).mono ?_
    rintro e we2 ⟨rfl,hb⟩
    replace H:=zF hb H
    clear hb S36
    go_wp2_with fail
    refine (KN.out _).mono ?_
    rintro e wk ⟨rfl,hb⟩
    replace H:=zF hb H
    clear hb
    go_wp2_with fail
    go_ret
    exact ⟨rfl,H.out.1.1.1.out⟩
   | true =>
   cases q with
   | false =>
    go_upto_region 18 with (first|(refine wpList_load_midw (by kernel_rfl) 23 (.tmp 100) rfl w1.heap.size 0 rfl [.int .i64 th,.int .i64 tv,.int .i64 tc] _ (range_blk H.out.1.2 rfl) Tryz.underlying23 rfl (by kernel_rfl) ?_)|(refine wpList_load_midw (by kernel_rfl) 23 (.tmp 102) rfl w.heap.size 0 rfl [.int .i64 h0,.int .i64 v0,.int .i64 c0] _ (range_blk H.out.1.1.2 rfl) Tryz.underlying23 rfl (by kernel_rfl) ?_)|(refine wpList_neq_agg 23 _ (.tmp 101) (.tmp 103) rfl _ _ rfl rfl (by rfl) (by kernel_rfl) _ (EQ.out _) ?_;try simp only [Bool.not_true,Bool.not_false]))
    obtain ⟨rfl,rfl⟩:=(show noPoint=p∧(5:Int)=cd by simpa using PP.out)
    have OF:=zH (fun w=>of36_any noPoint A5 B5 n5 c5 m5 d5 w)
    have S36:=zH (fun w h1 h2=>same36_eq noPoint A5 B5 none none n5 c5 m5 d5 0 0 0 0 w h1 h2 (Sl.nil _ _ _) (Sl.nil _ _ _))
    dsimp only [ptCells,noPoint,noTensor] at OF S36 H SS
    go_wp2_with (refine wpList_load_midw (by kernel_rfl) 42 (.tmp 8) rfl w7.heap.size 0 rfl [.int .i64 0,.int .i64 0,.int .i64 0,.int .i64 0,.int .i64 0,.int .i64 0,.slice A5 n5 c5,.int .i64 0,.int .i64 0,.int .i64 0,.slice B5 m5 d5] _ (range_blk H.out.2 rfl) Tryz.underlying42 rfl (by kernel_rfl) ?_)
    refine (OF.out _).mono ?_
    rintro e we ⟨rfl,hb⟩
    replace H:=zF hb H
    replace SS:=zF hb SS
    clear hb OF
    go_wp2_with fail
    refine (S36.out _ SS.out.1.all SS.out.2.all).mono ?_
    rintro e we2 ⟨rfl,hb⟩
    replace H:=zF hb H
    clear hb S36
    go_wp2_with fail
    refine (KN.out _).mono ?_
    rintro e wk ⟨rfl,hb⟩
    replace H:=zF hb H
    clear hb
    go_wp2_with fail
    go_ret
    exact ⟨rfl,H.out.1.1.1.out⟩
   | true =>
   obtain ⟨rfl,rfl⟩:=(show (⟨0,0,0,t,t⟩:Pt)=p∧(0:Int)=cd by simpa using PP.out)
   have OF:=zH (fun w=>of36_any (⟨0,0,0,t,t⟩:Pt) A5 B5 n5 c5 m5 d5 w)
   have S36:=zH (fun w=>same36_eq (⟨0,0,0,t,t⟩:Pt) A5 B5 D D n5 c5 m5 d5 m c m c w)
   have HT:=zH (HD.out.fut H.out.1.1.1.out)
   dsimp only [ptCells] at OF S36 H SS
   simp only [TE.out.1,TE.out.2.1,TE.out.2.2] at OF S36 H
   go_upto_region 19 with (first|(refine wpList_load_midw (by kernel_rfl) 23 (.tmp 100) rfl w1.heap.size 0 rfl [.int .i64 th,.int .i64 tv,.int .i64 tc] _ (range_blk H.out.1.2 rfl) Tryz.underlying23 rfl (by kernel_rfl) ?_)|(refine wpList_load_midw (by kernel_rfl) 23 (.tmp 102) rfl w.heap.size 0 rfl [.int .i64 h0,.int .i64 v0,.int .i64 c0] _ (range_blk H.out.1.1.2 rfl) Tryz.underlying23 rfl (by kernel_rfl) ?_)|(refine wpList_neq_agg 23 _ (.tmp 101) (.tmp 103) rfl _ _ rfl rfl (by rfl) (by kernel_rfl) _ (EQ.out _) ?_;try simp only [Bool.not_true,Bool.not_false]))
   have R8:=zH (fun z:Ext wb=>range_blk (off:=0) (vs:=[.int .i64 0,.int .i64 0,.int .i64 0,.int .i64 th,.int .i64 tv,.int .i64 tc,.slice A5 n5 c5,.int .i64 th,.int .i64 tv,.int .i64 tc,.slice B5 m5 d5]) (H.out.2.ext z) rfl)
   have R3:=zH (fun z:Ext wb=>range_blk (off:=0) (vs:=[.int .i64 th,.int .i64 tv,.int .i64 tc,.slice D m c]) (H.out.1.2.ext z) rfl)
   have E1:=zH (fun z:Ext wb=>calls_ext z (OF.out z.1))
   have E2:=zH (fun z:Ext wb=>calls_ext z (S36.out z.1 (SS.out.1.fut z.2).all (SS.out.2.fut z.2).all (HT.out.fut z.2).all (HT.out.fut z.2).all))
   have E3:=zH (fun z:Ext wb=>calls_ext z (KN.out z.1))
   refine wp_region_ext wb (by kernel_rfl) (by kernel_rfl) (Below.refl _ _) ?_
   repeat (go_big_quiet_step (fail))
   refine wpQuiet_load_mid (by kernel_rfl) 42 (.tmp 8) rfl w7.heap.size 0 rfl _ _ (by rintro _ ⟨z,rfl⟩;exact R8.out z) Tryz.underlying42 rfl (by kernel_rfl) ?_
   simp only [pX]
   go_big_quiet_step ((with_reducible exact E1.out _))
   refine wpQuiet_load_mid (by kernel_rfl) 29 (.tmp 3) rfl w1.heap.size 0 rfl _ _ (by rintro _ ⟨z,rfl⟩;exact R3.out z) Tryz.underlying29 rfl (by kernel_rfl) ?_
   simp only [pX]
   refine wpQuiet_load_mid (by kernel_rfl) 29 (.tmp 3) rfl w1.heap.size 0 rfl _ _ (by rintro _ ⟨z,rfl⟩;exact R3.out z) Tryz.underlying29 rfl (by kernel_rfl) ?_
   simp only [pX]
   repeat (go_big_quiet_step ((with_reducible exact E2.out _)))
   repeat (go_big_quiet_step ((with_reducible exact E3.out _)))
   refine wpQuiet_nil ?_
   rintro wc ⟨⟨_,hb⟩,rfl⟩
   replace H:=zF hb H
   clear hb R8 R3 E1 E2 E3
   go_wp2_with fail
   go_ret
   exact ⟨rfl,H.out.1.1.1.out⟩
theorem walkStarts_walk (cs:Array Value) (u:Bun) {W:World} (hu:tBun.rep W (blo W.heap.size) cs.toList u) (ct:Array Value) (t:Tensor) (ht:tTensor.rep W (blo W.heap.size) ct.toList t) (w:World) (e:W=w) :
  Calls Tryz.prog 3 #[.agg cs,.agg ct] w fun e w'=>e=.returned (.bool true)∧Below w.heap.size w w':=by
 subst e
 obtain ⟨A,n,cap,e1,hi,hs⟩:=bun_open hu
 obtain ⟨D,m,c,e2,h1,h2⟩:=tensor_open ht
 obtain ⟨cs⟩:=cs
 obtain ⟨ct⟩:=ct
 simp only at e1 e2
 subst e1 e2
 exact walkStarts_any u A n cap t D m c _ hs hi h1 h2
end Go.Proofs.YthjmghjfklkmbaaGreat
