/-
  Between which numbers a row of weights lies (layer 24): span.of, span.Row.
-/
import Derived.Deep.DeepCutAuto
import Derived.Deep.CutBlock
import Derived.Test.YtppcjcigekoipaaGreatJ08
set_option linter.unusedVariables false
set_option linter.unusedSimpArgs false
namespace Go.Proofs.YtppcjcigekoipaaGreat
open Go.RowKit Go.ChangeShapes Go.WideShapes
set_option maxRecDepth 100000
set_option maxHeartbeats 4000000
theorem spanOf_any (a:Int) (A:Option Addr) (n cap:Nat) (l:List Int) (w:World) (hs:Sl (tInt .i64) w (blo w.heap.size) A n cap l) :
  Calls Tryz.prog 206 #[.int .i64 a,.slice A n cap] w fun e w'=>e=.returned (.agg #[.int .i64 (ofR a l).1,.int .i64 (ofR a l).2])∧Below w.heap.size w w':=by
 have hmax:n≤9223372036854775807:=Nat.le_trans hs.cap_le hs.max_le
 have HN:=zH hs.n_eq
 have HS:=zH (Old.now hs)
 have FR:=zH (Far.refl w)
 obtain ⟨w1,hw_w1,BR,k_w1⟩:=nB w #[.int .i64 0,.int .i64 0] 280
 replace FR:=zH (FR.out.fut k_w1)
 clear k_w1
 obtain ⟨w2,hw_w2,BO,k_w2⟩:=nB w1 #[.int .i64 a,.int .i64 a] 280
 replace FR:=zH (FR.out.fut k_w2)
 replace BR:=zH (BR.out.fut k_w2)
 clear k_w2
 have l1:w.heap.size < w1.heap.size:=by rw [← hw_w1];simp
 have l2:w1.heap.size < w2.heap.size:=by rw [← hw_w2];simp
 clear hs
 go_enter Tryz.func206,Tryz.ntmps206
 go_wp2_with fail
 clear hw_w1 hw_w2
 have GR:=zH (show w2.grownBy w2 (some w1.heap.size) from ⟨rfl,rfl,rfl,Nat.le_refl _,fun _ _ _=>rfl⟩)
 go_loopw [13] (fun ii wr=>∃ k:Nat,k≤n∧ii=.int .i64 k∧w2.grownBy wr (some w1.heap.size)∧Blk wr w1.heap.size 280 #[.int .i64 (ofR a (l.take k)).1,.int .i64 (ofR a (l.take k)).2]) (fun ii _=>n - (intOf ii).toNat)
 case atStart=>exact ⟨0,Nat.zero_le _,rfl,GR.out,BO.out⟩
 case round =>
  obtain ⟨k,hk,rfl,hg,hB⟩:=hrel
  have G:=zH hg
  have zr:=hg.size
  replace HS:=zH ((HS.out.fut FR.out.out).away hg (by omega))
  replace FR:=zH (FR.out.away hg (by omega))
  replace BR:=zH (BR.out.away hg (by omega))
  have BX:=zH hB
  clear hg hB BO GR
  by_cases hlt:k < n
  ·have p1:(k:Int) < (n:Int):=by omega
   obtain ⟨bz,oz,rfl,-,-,cx,ix⟩:=HS.out.out.int_at k hlt
   have TS:=zH (take_snoc l k (l.getD k 0) (by rw [List.getD_eq_getElem?_getD,List.getElem?_eq_getElem (by have:=HN.out;omega)];rfl))
   obtain ⟨x,hx⟩:∃ x,l.getD k 0=x:=⟨_,rfl⟩
   rw [hx] at cx ix TS
   have OS:=zH (ofR_snoc a (l.take k) x)
   obtain ⟨⟨p,q⟩,hpq⟩:∃ r,ofR a (l.take k)=r:=⟨_,rfl⟩
   rw [hpq] at BX OS
   simp only at BX OS
   have c0:=BX.out.cell 0
   have c1:=BX.out.cell 1
   obtain ⟨p',hp'⟩:∃ r,min p x=r:=⟨_,rfl⟩
   obtain ⟨q',hq'⟩:∃ r,max q x=r:=⟨_,rfl⟩
   have mn:(if x < p then x else p)=p':=by rw [mnI,hp']
   have mx:(if q < x then x else q)=q':=by rw [mxI,hq']
   rw [hp',hq'] at OS
   clear hx hpq hp' hq'
   go_wp2_with (refine sB 280 (.tmp 5) (.tmp 25) w1.heap.size #[.int .i64 p',.int .i64 q'] BX.out ?_;intro w3 B3 g3)
   exact ⟨⟨k+1,by omega,by go_num,grT G.out g3,by rw [TS.out,OS.out];exact B3⟩,by simp [intOf];omega⟩
  ·obtain rfl:k=n:=by omega
   have e:=HN.out
   rw [List.take_of_length_le (by omega)] at BX
   go_wp2_with (first|(refine lB 280 (.tmp 5) w1.heap.size BX.out Tryz.underlying280 ?_)|(refine sB 280 (.tmp 4) (.tmp 27) w.heap.size #[.int .i64 (ofR a l).1,.int .i64 (ofR a l).2] BR.out ?_;intro w3 B3 g3))
   refine ret_cell rfl B3 rfl Tryz.underlying280 (by kernel_rfl) rfl ?_
   exact ⟨rfl,(FR.out.away g3 (by omega)).out⟩
theorem spanRow_any (A:Option Addr) (n cap:Nat) (l:List Int) (b lo hi z:Int) (gaps:Bool) (w:World) (hs:Sl (tInt .i8) w (blo w.heap.size) A n cap l) (hn:n≤16384) (hb:InK .i32 b) (hlo:InK .i8 lo) (hhi:InK .i8 hi) (hz:InK .i8 z) :
  Calls Tryz.prog 185 #[.slice A n cap,.int .i32 b,.int .i8 lo,.int .i8 hi,.int .i8 z,.bool gaps] w fun e w'=>e=.returned (.agg #[.int .i64 (rowR b lo hi z gaps l).1,.int .i64 (rowR b lo hi z gaps l).2])∧Below w.heap.size w w':=by
 have HN:=zH hs.n_eq
 have RB:=zH (rowR_bd (gaps:=gaps) hlo hhi hz hs.allK hb)
 have OB:=zH (fun v hv=>oneR_bd (v:=v) gaps hlo hhi hz hv)
 have MB:=zH (fun v hv=>And.intro (mul8_bd (v:=v) hv hlo hz) (mul8_bd (v:=v) hv hhi hz))
 have ON:=zH (show ∀ v,oneR lo hi z gaps v=if gaps=true then (min (min (v*(lo - z)) (v*(hi - z))) 0,max (max (v*(lo - z)) (v*(hi - z))) 0) else (min (v*(lo - z)) (v*(hi - z)),max (v*(lo - z)) (v*(hi - z))) from fun _=>rfl)
 have g1:IntKind.i64.wrap b=b:=IntWalk.i64_in _ (by rw [inK_i32] at hb;omega)
 have hs':=Old.now hs
 rw [inK_i8] at hlo hhi hz
 have g2:IntKind.i64.wrap lo=lo:=IntWalk.i64_in _ (by omega)
 have g3:IntKind.i64.wrap hi=hi:=IntWalk.i64_in _ (by omega)
 have g4:IntKind.i64.wrap z=z:=IntWalk.i64_in _ (by omega)
 obtain ⟨dl,hdl⟩:∃ x,lo - z=x:=⟨_,rfl⟩
 obtain ⟨dh,hdh⟩:∃ x,hi - z=x:=⟨_,rfl⟩
 have g5:IntKind.i64.wrap (lo - z)=dl:=by rw [← hdl];exact IntWalk.i64_in _ (by omega)
 have g6:IntKind.i64.wrap (hi - z)=dh:=by rw [← hdh];exact IntWalk.i64_in _ (by omega)
 rw [hdl,hdh] at MB ON
 have HS:=zH hs'
 have FR:=zH (Far.refl w)
 obtain ⟨w1,hw_w1,BR,k_w1⟩:=nB w #[.int .i64 0,.int .i64 0] 280
 replace FR:=zH (FR.out.fut k_w1)
 clear k_w1
 obtain ⟨w2,hw_w2,BO,k_w2⟩:=nB w1 #[.int .i64 b,.int .i64 b] 280
 replace FR:=zH (FR.out.fut k_w2)
 replace BR:=zH (BR.out.fut k_w2)
 clear k_w2
 have l1:w.heap.size < w1.heap.size:=by rw [← hw_w1];simp
 have l2:w1.heap.size < w2.heap.size:=by rw [← hw_w2];simp
 clear hs hs' hb hlo hhi hz hdl hdh
 go_enter Tryz.func185,Tryz.ntmps185
 go_wp2_with fail
 clear hw_w1 hw_w2
 have GR:=zH (grS w2 (some w1.heap.size))
 go_loopw [24] (fun ii wr=>∃ k:Nat,k≤n∧ii=.int .i64 k∧w2.grownBy wr (some w1.heap.size)∧Blk wr w1.heap.size 280 #[.int .i64 (rowR b lo hi z gaps (l.take k)).1,.int .i64 (rowR b lo hi z gaps (l.take k)).2]) (fun ii _=>n - (intOf ii).toNat)
 case atStart=>exact ⟨0,Nat.zero_le _,rfl,GR.out,BO.out⟩
 case round =>
  obtain ⟨k,hk,rfl,hg,hB⟩:=hrel
  have G:=zH hg
  have zr:=hg.size
  replace HS:=zH ((HS.out.fut FR.out.out).away hg (by omega))
  replace FR:=zH (FR.out.away hg (by omega))
  replace BR:=zH (BR.out.away hg (by omega))
  have BX:=zH hB
  clear hg hB BO GR
  by_cases hlt:k < n
  ·have p1:(k:Int) < (n:Int):=by omega
   obtain ⟨bz,oz,rfl,-,-,cx,ix⟩:=HS.out.out.int_at k hlt
   have TS:=zH (take_snoc l k (l.getD k 0) (by rw [List.getD_eq_getElem?_getD,List.getElem?_eq_getElem (by have:=HN.out;omega)];rfl))
   have rb:=RB.out k (by have:=HN.out;omega)
   have rb2:=RB.out (k+1) (by have:=HN.out;omega)
   rw [TS.out] at rb2
   obtain ⟨x,hx⟩:∃ x,l.getD k 0=x:=⟨_,rfl⟩
   rw [hx] at cx ix TS rb2
   have OS:=zH (rowR_snoc b lo hi z gaps (l.take k) x)
   rw [OS.out] at rb2
   have mb:=MB.out x ix
   have on:=ON.out x
   obtain ⟨⟨o1,o2⟩,ho⟩:∃ r,oneR lo hi z gaps x=r:=⟨_,rfl⟩
   rw [ho] at OS rb2 on
   obtain ⟨⟨p,q⟩,hpq⟩:∃ r,rowR b lo hi z gaps (l.take k)=r:=⟨_,rfl⟩
   rw [hpq] at BX OS rb rb2
   simp only at BX OS rb rb2
   obtain ⟨u,hu⟩:∃ r,x*dl=r:=⟨_,rfl⟩
   obtain ⟨v,hv⟩:∃ r,x*dh=r:=⟨_,rfl⟩
   rw [hu,hv] at mb on
   have e1:IntKind.i64.wrap x=x:=IntWalk.i64_in _ (by rw [inK_i8] at ix;omega)
   have e2:IntKind.i64.wrap (x*dl)=u:=by rw [hu];exact IntWalk.i64_in _ (by omega)
   have e3:IntKind.i64.wrap (x*dh)=v:=by rw [hv];exact IntWalk.i64_in _ (by omega)
   have IV:=zH (show InK .i64 v by rw [inK_i64];omega)
   have b0:=BX.out.cell 0
   have b1:=BX.out.cell 1
   obtain ⟨p',hp'⟩:∃ r,p+o1=r:=⟨_,rfl⟩
   obtain ⟨q',hq'⟩:∃ r,q+o2=r:=⟨_,rfl⟩
   have f1:IntKind.i64.wrap (p+o1)=p':=by rw [hp'];exact IntWalk.i64_in _ (by omega)
   have f2:IntKind.i64.wrap (q+o2)=q':=by rw [hq'];exact IntWalk.i64_in _ (by omega)
   rw [hp',hq'] at OS
   have ZR:=zH zr
   obtain ⟨m1,hm1⟩:∃ r,min u v=r:=⟨_,rfl⟩
   obtain ⟨m2,hm2⟩:∃ r,max u v=r:=⟨_,rfl⟩
   have OF:=zH (show ofR u [v]=(m1,m2) by rw [← hm1,← hm2];rfl)
   have mm:m1≤m2:=by omega
   have IM:=zH (show InK .i64 m1∧InK .i64 m2 by rw [inK_i64,inK_i64];omega)
   rw [hm1,hm2] at on
   clear hx hpq hu hv hp' hq' rb rb2 mb ho
   have RR:=zH (Far.refl wr)
   obtain ⟨w3,hw_w3,BL,k_w3⟩:=nB wr #[.int .i64 v] 3
   replace BR:=zH (BR.out.fut k_w3)
   replace BX:=zH (BX.out.fut k_w3)
   replace FR:=zH (FR.out.fut k_w3)
   replace RR:=zH (RR.out.fut k_w3)
   clear k_w3
   have l3:wr.heap.size < w3.heap.size:=by rw [← hw_w3];simp
   go_wp2_with fail
   clear hw_w3
   refine (spanOf_any u _ 1 1 [v] w3 (Sl.lit _ BL.out.heap rfl (by simpa using IV.out) BL.out.lt rfl rfl (by unfold maxLen;simp))).mono ?_
   rintro e w4 ⟨rfl,hb⟩
   rw [OF.out]
   replace BR:=zH (BR.out.fut hb)
   replace BX:=zH (BX.out.fut hb)
   replace FR:=zH (FR.out.fut hb)
   replace RR:=zH (RR.out.fut hb)
   clear hb
   have l4:=RR.out.size
   obtain ⟨w5,hw_w5,BY,k_w5⟩:=nB w4 #[.int .i64 m1,.int .i64 m2] 280
   replace BR:=zH (BR.out.fut k_w5)
   replace BX:=zH (BX.out.fut k_w5)
   replace FR:=zH (FR.out.fut k_w5)
   replace RR:=zH (RR.out.fut k_w5)
   clear k_w5
   clear b0 b1
   have b0:=BX.out.cell 0
   have b1:=BX.out.cell 1
   have l5:w4.heap.size < w5.heap.size:=by rw [← hw_w5];simp
   have y0:=BY.out.cell 0
   have y1:=BY.out.cell 1
   cases gaps with
   | false =>
    rw [if_neg (by decide)] at on
    injection on with on1 on2
    subst on1 on2
    go_wp2_with (refine sB 280 (.tmp 13) (.tmp 63) w1.heap.size #[.int .i64 p',.int .i64 q'] BX.out ?_;intro w6 B6 g6)
    exact ⟨⟨k+1,by omega,by go_num,grT G.out (grT (grO RR.out.out) g6),by rw [TS.out,OS.out];exact B6⟩,by simp [intOf];omega⟩
   | true =>
    rw [if_pos rfl] at on
    injection on with on1 on2
    have OF2:=zH (show ofR 0 [m1,m2]=(o1,o2) by rw [on1,on2];show (min (min 0 m1) m2,max (max 0 m1) m2)=_;congr 1 <;> omega)
    clear on1 on2 hm1 hm2 OF
    obtain ⟨w6,hw_w6,BM,k_w6⟩:=nB w5 #[.int .i64 m1,.int .i64 m2] 3
    replace BR:=zH (BR.out.fut k_w6)
    replace BX:=zH (BX.out.fut k_w6)
    replace FR:=zH (FR.out.fut k_w6)
    replace RR:=zH (RR.out.fut k_w6)
    replace BY:=zH (BY.out.fut k_w6)
    clear k_w6
    have l6:w5.heap.size < w6.heap.size:=by rw [← hw_w6];simp
    go_wp2_with fail
    clear hw_w5 hw_w6
    refine (spanOf_any 0 _ 2 2 [m1,m2] w6 (Sl.lit _ BM.out.heap rfl (by simpa using IM.out) BM.out.lt rfl rfl (by unfold maxLen;simp))).mono ?_
    rintro e w7 ⟨rfl,hb⟩
    rw [OF2.out]
    replace BR:=zH (BR.out.fut hb)
    replace BX:=zH (BX.out.fut hb)
    replace FR:=zH (FR.out.fut hb)
    replace RR:=zH (RR.out.fut hb)
    replace BY:=zH (BY.out.fut hb)
    clear hb
    clear b0 b1 y0 y1
    go_wp2_with (first|(refine sB 280 (.tmp 16) (.tmp 52) w4.heap.size #[.int .i64 o1,.int .i64 o2] BY.out ?_;intro w8 B8 g8;have BX8:=zH (BX.out.away g8 (by omega));have b0:=BX8.out.cell 0;have b1:=BX8.out.cell 1;have y0:=B8.cell 0;have y1:=B8.cell 1;have R8:=zH (RR.out.away g8 (by omega));have F8:=zH (FR.out.away g8 (by have:=FR.out.size;have:=RR.out.size;omega)))|(refine sB 280 (.tmp 13) (.tmp 63) w1.heap.size #[.int .i64 p',.int .i64 q'] BX8.out ?_;intro w9 B9 g9))
    exact ⟨⟨k+1,by omega,by go_num,grT G.out (grT (grO R8.out.out) g9),by rw [TS.out,OS.out];exact B9⟩,by simp [intOf];omega⟩
  ·obtain rfl:k=n:=by omega
   have e:=HN.out
   rw [List.take_of_length_le (by omega)] at BX
   go_wp2_with (first|(refine lB 280 (.tmp 13) w1.heap.size BX.out Tryz.underlying280 ?_)|(refine sB 280 (.tmp 12) (.tmp 65) w.heap.size #[.int .i64 (rowR b lo hi z gaps l).1,.int .i64 (rowR b lo hi z gaps l).2] BR.out ?_;intro w3 B3 g3))
   refine ret_cell rfl B3 rfl Tryz.underlying280 (by kernel_rfl) rfl ?_
   exact ⟨rfl,(FR.out.away g3 (by omega)).out⟩
end Go.Proofs.YtppcjcigekoipaaGreat
