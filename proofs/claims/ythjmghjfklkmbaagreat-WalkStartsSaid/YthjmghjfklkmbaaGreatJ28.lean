/-
  Between which numbers lies what a scale makes of a range (layer 24): After; the document's Row and After.
  Between which numbers values lie (layer 32): guard.ends, over, upside, summed.
  Two numbers joined (layer 20): join.may, join.scaled, join.One, the document's One.
-/
import Derived.Test.YthjmghjfklkmbaaGreatJ16
set_option linter.unusedVariables false
set_option linter.unusedSimpArgs false
namespace Go.Proofs.YthjmghjfklkmbaaGreat
open Go.RowKit Go.ChangeShapes Go.WideShapes
set_option maxRecDepth 100000
set_option maxHeartbeats 4000000
def clamp32 (a:Int):Int:=min (max a (-2147483648)) 2147483647
theorem clamp32_in (a:Int):InK .i32 (clamp32 a):=by unfold clamp32;rw [inK_i32];omega
theorem clamp32_wrap (a:Int):IntKind.i32.wrap (min (max a (-2147483648)) 2147483647)=clamp32 a:=by
 have h:=clamp32_in a
 unfold clamp32 at *
 rw [inK_i32] at h
 exact IntWalk.i32_in _ (by omega)
theorem mxI' (x:Int):(if x < -2147483648 then -2147483648 else x)=max x (-2147483648):=by split <;> omega
theorem mnI' (x:Int):(if 2147483647 < x then 2147483647 else x)=min x 2147483647:=by split <;> omega
def afterR (r:Int × Int) (m s z lo hi:Int):Int × Int:=(min (heldQ (clamp32 r.1) m s z lo hi) (heldQ (clamp32 r.2) m s z lo hi),max (heldQ (clamp32 r.1) m s z lo hi) (heldQ (clamp32 r.2) m s z lo hi))
theorem afterR_in (r:Int × Int) (m s z lo hi:Int):InK .i8 (afterR r m s z lo hi).1∧InK .i8 (afterR r m s z lo hi).2:=by
 have h1:=heldQ_in (clamp32 r.1) m s z lo hi
 have h2:=heldQ_in (clamp32 r.2) m s z lo hi
 unfold afterR
 rw [inK_i8] at *
 rw [inK_i8]
 simp only
 omega
theorem spanAfter_any (a b m s z lo hi:Int) (w:World) (hm:InK .i32 m) (hz:InK .i8 z) (hlo:InK .i8 lo) (hhi:InK .i8 hi) :
  Calls Tryz.prog 117 #[.agg #[.int .i64 a,.int .i64 b],.agg #[.int .i32 m,.int .i64 s,.int .i8 z],.int .i8 lo,.int .i8 hi] w fun e w'=>e=.returned (.tuple #[.int .i8 (afterR (a,b) m s z lo hi).1,.int .i8 (afterR (a,b) m s z lo hi).2])∧Below w.heap.size w w':=by
 obtain ⟨x,hx⟩:∃ x,clamp32 a=x:=⟨_,rfl⟩
 obtain ⟨y,hy⟩:∃ x,clamp32 b=x:=⟨_,rfl⟩
 have ix:InK .i32 x:=by rw [← hx];exact clamp32_in a
 have iy:InK .i32 y:=by rw [← hy];exact clamp32_in b
 have HX:=zH (fun w=>fixHeld_any x m s z lo hi w ix hm hz hlo hhi)
 have HY:=zH (fun w=>fixHeld_any y m s z lo hi w iy hm hz hlo hhi)
 obtain ⟨p,hp⟩:∃ p,heldQ x m s z lo hi=p:=⟨_,rfl⟩
 obtain ⟨q,hq⟩:∃ p,heldQ y m s z lo hi=p:=⟨_,rfl⟩
 have RE:=zH (show afterR (a,b) m s z lo hi=(min p q,max p q) by unfold afterR;simp only;rw [hx,hy,hp,hq])
 rw [hp] at HX
 rw [hq] at HY
 obtain ⟨a1,ha1⟩:∃ u,max a (-2147483648)=u:=⟨_,rfl⟩
 obtain ⟨a2,ha2⟩:∃ u,min a1 2147483647=u:=⟨_,rfl⟩
 have ka1:(if a < -2147483648 then -2147483648 else a)=a1:=by rw [mxI',ha1]
 have ka2:(if 2147483647 < a1 then 2147483647 else a1)=a2:=by rw [mnI',ha2]
 have ka3:IntKind.i32.wrap a2=x:=by rw [← ha2,← ha1,← hx];exact clamp32_wrap a
 obtain ⟨b1,hb1⟩:∃ u,max b (-2147483648)=u:=⟨_,rfl⟩
 obtain ⟨b2,hb2⟩:∃ u,min b1 2147483647=u:=⟨_,rfl⟩
 have kb1:(if b < -2147483648 then -2147483648 else b)=b1:=by rw [mxI',hb1]
 have kb2:(if 2147483647 < b1 then 2147483647 else b1)=b2:=by rw [mnI',hb2]
 have kb3:IntKind.i32.wrap b2=y:=by rw [← hb2,← hb1,← hy];exact clamp32_wrap b
 obtain ⟨u,hu⟩:∃ u,min p q=u:=⟨_,rfl⟩
 obtain ⟨v,hv⟩:∃ u,max p q=u:=⟨_,rfl⟩
 have f3:(if q < p then q else p)=u:=by rw [mnI,hu]
 have f4:(if p < q then q else p)=v:=by rw [mxI,hv]
 rw [RE.out]
 have RU:=zH (show (min p q,max p q)=(u,v) by rw [hu,hv])
 rw [RU.out]
 have FR:=zH (Far.refl w)
 obtain ⟨w1,hw_w1,BA,k_w1⟩:=nB w #[.int .i64 a,.int .i64 b] 188
 replace FR:=zH (FR.out.fut k_w1)
 clear k_w1
 obtain ⟨w2,hw_w2,BQ,k_w2⟩:=nB w1 #[.int .i32 m,.int .i64 s,.int .i8 z] 68
 replace FR:=zH (FR.out.fut k_w2)
 replace BA:=zH (BA.out.fut k_w2)
 clear k_w2
 have a0:=BA.out.cell 0
 have a1:=BA.out.cell 1
 have l0:=FR.out.size
 clear hx hy hp hq ha1 ha2 hb1 hb2 ix iy hm hz hlo hhi hu hv RE RU
 go_enter Tryz.func117,Tryz.ntmps117
 go_wp2_with (first|(refine lB 68 (.tmp 5) w1.heap.size BQ.out Tryz.underlying68 ?_)|(go_at_call 122;with_reducible refine (HX.out _).mono ?_;rintro e w3 ⟨rfl,hb⟩;replace FR:=zH (FR.out.fut hb);replace BQ:=zH (BQ.out.fut hb);have k3:=hb;clear hb hw_w1 hw_w2 a0;replace BA:=zH (BA.out.fut k3);have a1:=BA.out.cell 1)|(go_at_call 122;with_reducible refine (HY.out _).mono ?_;rintro e w4 ⟨rfl,hb⟩;replace FR:=zH (FR.out.fut hb);clear hb))
 go_ret2
 exact ⟨rfl,FR.out.out⟩
theorem rspanAfter_any (a b m s z lo hi:Int) (w:World) (hm:InK .i32 m) (hz:InK .i8 z) (hlo:InK .i8 lo) (hhi:InK .i8 hi) :
  Calls Tryz.prog 73 #[.int .i64 a,.int .i64 b,.agg #[.int .i32 m,.int .i64 s,.int .i8 z],.int .i8 lo,.int .i8 hi] w fun e w'=>e=.returned (.tuple #[.int .i8 (afterR (a,b) m s z lo hi).1,.int .i8 (afterR (a,b) m s z lo hi).2])∧Below w.heap.size w w':=by
 obtain ⟨x,hx⟩:∃ x,clamp32 a=x:=⟨_,rfl⟩
 obtain ⟨y,hy⟩:∃ x,clamp32 b=x:=⟨_,rfl⟩
 have ix:InK .i32 x:=by rw [← hx];exact clamp32_in a
 have iy:InK .i32 y:=by rw [← hy];exact clamp32_in b
 have HX:=zH (fun w=>rfixHeld_any x m s z lo hi w ix hm hz hlo hhi)
 have HY:=zH (fun w=>rfixHeld_any y m s z lo hi w iy hm hz hlo hhi)
 obtain ⟨p,hp⟩:∃ p,heldQ x m s z lo hi=p:=⟨_,rfl⟩
 obtain ⟨q,hq⟩:∃ p,heldQ y m s z lo hi=p:=⟨_,rfl⟩
 have RE:=zH (show afterR (a,b) m s z lo hi=(min p q,max p q) by unfold afterR;simp only;rw [hx,hy,hp,hq])
 rw [hp] at HX
 rw [hq] at HY
 obtain ⟨a1,ha1⟩:∃ u,max a (-2147483648)=u:=⟨_,rfl⟩
 obtain ⟨a2,ha2⟩:∃ u,min a1 2147483647=u:=⟨_,rfl⟩
 have ka1:(if a < -2147483648 then -2147483648 else a)=a1:=by rw [mxI',ha1]
 have ka2:(if 2147483647 < a1 then 2147483647 else a1)=a2:=by rw [mnI',ha2]
 have ka3:IntKind.i32.wrap a2=x:=by rw [← ha2,← ha1,← hx];exact clamp32_wrap a
 obtain ⟨b1,hb1⟩:∃ u,max b (-2147483648)=u:=⟨_,rfl⟩
 obtain ⟨b2,hb2⟩:∃ u,min b1 2147483647=u:=⟨_,rfl⟩
 have kb1:(if b < -2147483648 then -2147483648 else b)=b1:=by rw [mxI',hb1]
 have kb2:(if 2147483647 < b1 then 2147483647 else b1)=b2:=by rw [mnI',hb2]
 have kb3:IntKind.i32.wrap b2=y:=by rw [← hb2,← hb1,← hy];exact clamp32_wrap b
 obtain ⟨u,hu⟩:∃ u,min p q=u:=⟨_,rfl⟩
 obtain ⟨v,hv⟩:∃ u,max p q=u:=⟨_,rfl⟩
 have f3:(if q < p then q else p)=u:=by rw [mnI,hu]
 have f4:(if p < q then q else p)=v:=by rw [mxI,hv]
 rw [RE.out]
 have RU:=zH (show (min p q,max p q)=(u,v) by rw [hu,hv])
 rw [RU.out]
 have FR:=zH (Far.refl w)
 obtain ⟨w1,hw_w1,BQ,k_w1⟩:=nB w #[.int .i32 m,.int .i64 s,.int .i8 z] 68
 replace FR:=zH (FR.out.fut k_w1)
 clear k_w1
 have l0:=FR.out.size
 clear hx hy hp hq ha1 ha2 hb1 hb2 ix iy hm hz hlo hhi hu hv RE RU
 go_enter Tryz.func73,Tryz.ntmps73
 go_wp2_with (first|(refine lB 68 (.tmp 7) w.heap.size BQ.out Tryz.underlying68 ?_)|(go_at_call 96;with_reducible refine (HX.out _).mono ?_;rintro e w3 ⟨rfl,hb⟩;replace FR:=zH (FR.out.fut hb);replace BQ:=zH (BQ.out.fut hb);clear hb hw_w1)|(go_at_call 96;with_reducible refine (HY.out _).mono ?_;rintro e w4 ⟨rfl,hb⟩;replace FR:=zH (FR.out.fut hb);clear hb))
 go_ret2
 exact ⟨rfl,FR.out.out⟩
theorem rspanRow_any (A:Option Addr) (n cap:Nat) (l:List Int) (b lo hi z:Int) (gaps:Bool) (w:World) (hs:Sl (tInt .i8) w (blo w.heap.size) A n cap l) (hn:n≤16384) (hb:InK .i32 b) (hlo:InK .i8 lo) (hhi:InK .i8 hi) (hz:InK .i8 z) :
  Calls Tryz.prog 76 #[.slice A n cap,.int .i32 b,.int .i8 lo,.int .i8 hi,.int .i8 z,.bool gaps] w fun e w'=>e=.returned (.tuple #[.int .i64 (rowR b lo hi z gaps l).1,.int .i64 (rowR b lo hi z gaps l).2])∧Below w.heap.size w w':=by
 have HN:=zH hs.n_eq
 have RB:=zH (rowR_bd (gaps:=gaps) hlo hhi hz hs.allK hb)
 have MB:=zH (fun v hv=>And.intro (mul8_bd (v:=v) hv hlo hz) (mul8_bd (v:=v) hv hhi hz))
 have ON:=zH (show ∀ v,oneR lo hi z gaps v=if gaps=true then (min (min (v*(lo - z)) (v*(hi - z))) 0,max (max (v*(lo - z)) (v*(hi - z))) 0) else (min (v*(lo - z)) (v*(hi - z)),max (v*(lo - z)) (v*(hi - z))) from fun _=>rfl)
 have g1:IntKind.i64.wrap b=b:=IntWalk.i64_in _ (by rw [inK_i32] at hb;omega)
 have hs':=Old.now hs
 rw [inK_i8] at hlo hhi hz
 have g2:IntKind.i64.wrap lo=lo:=IntWalk.i64_in _ (by omega)
 have g3:IntKind.i64.wrap hi=hi:=IntWalk.i64_in _ (by omega)
 have g4:IntKind.i64.wrap z=z:=IntWalk.i64_in _ (by omega)
 obtain ⟨dl,hdl⟩:∃ x,lo - z=x:=⟨_,rfl⟩
 obtain ⟨dh,hdh⟩:∃ x,hi - z=x:=⟨_,rfl⟩
 have g5:IntKind.i64.wrap (lo - z)=dl:=by rw [← hdl];exact IntWalk.i64_in _ (by omega)
 have g6:IntKind.i64.wrap (hi - z)=dh:=by rw [← hdh];exact IntWalk.i64_in _ (by omega)
 rw [hdl,hdh] at MB ON
 have HS:=zH hs'
 have FR:=zH (Far.refl w)
 clear hs hs' hb hlo hhi hz hdl hdh
 go_enter Tryz.func76,Tryz.ntmps76
 go_wp2_with fail
 go_loopw [14,15,16] (fun u v ii wr=>∃ k:Nat,k≤n∧ii=.int .i64 k∧u=.int .i64 (rowR b lo hi z gaps (l.take k)).1∧v=.int .i64 (rowR b lo hi z gaps (l.take k)).2∧Below w.heap.size w wr) (fun _ _ ii _=>n - (intOf ii).toNat)
 case atStart=>exact ⟨0,Nat.zero_le _,rfl,rfl,rfl,FR.out.out⟩
 case round =>
  obtain ⟨k,hk,rfl,rfl,rfl,hg⟩:=hrel
  replace HS:=zH (HS.out.fut hg)
  replace FR:=zH (FR.out.fut hg)
  clear hg
  by_cases hlt:k < n
  ·have p1:(k:Int) < (n:Int):=by omega
   obtain ⟨bz,oz,rfl,-,-,cx,ix⟩:=HS.out.out.int_at k hlt
   have TS:=zH (take_snoc l k (l.getD k 0) (by rw [List.getD_eq_getElem?_getD,List.getElem?_eq_getElem (by have:=HN.out;omega)];rfl))
   have rb:=RB.out k (by have:=HN.out;omega)
   have rb2:=RB.out (k+1) (by have:=HN.out;omega)
   rw [TS.out] at rb2
   obtain ⟨x,hx⟩:∃ x,l.getD k 0=x:=⟨_,rfl⟩
   rw [hx] at cx ix TS rb2
   have OS:=zH (rowR_snoc b lo hi z gaps (l.take k) x)
   rw [OS.out] at rb2
   have mb:=MB.out x ix
   have on:=ON.out x
   obtain ⟨⟨o1,o2⟩,ho⟩:∃ r,oneR lo hi z gaps x=r:=⟨_,rfl⟩
   rw [ho] at OS rb2 on
   obtain ⟨⟨p,q⟩,hpq⟩:∃ r,rowR b lo hi z gaps (l.take k)=r:=⟨_,rfl⟩
   rw [hpq] at OS rb rb2
   rw [hpq]
   simp only at OS rb rb2 ⊢
   obtain ⟨u,hu⟩:∃ r,x*dl=r:=⟨_,rfl⟩
   obtain ⟨v,hv⟩:∃ r,x*dh=r:=⟨_,rfl⟩
   rw [hu,hv] at mb on
   have e1:IntKind.i64.wrap x=x:=IntWalk.i64_in _ (by rw [inK_i8] at ix;omega)
   have e2:IntKind.i64.wrap (x*dl)=u:=by rw [hu];exact IntWalk.i64_in _ (by omega)
   have e3:IntKind.i64.wrap (x*dh)=v:=by rw [hv];exact IntWalk.i64_in _ (by omega)
   obtain ⟨p',hp'⟩:∃ r,p+o1=r:=⟨_,rfl⟩
   obtain ⟨q',hq'⟩:∃ r,q+o2=r:=⟨_,rfl⟩
   have f1:IntKind.i64.wrap (p+o1)=p':=by rw [hp'];exact IntWalk.i64_in _ (by omega)
   have f2:IntKind.i64.wrap (q+o2)=q':=by rw [hq'];exact IntWalk.i64_in _ (by omega)
   rw [hp',hq'] at OS
   obtain ⟨m1,hm1⟩:∃ r,min u v=r:=⟨_,rfl⟩
   obtain ⟨m2,hm2⟩:∃ r,max u v=r:=⟨_,rfl⟩
   have mm:m1≤m2:=by omega
   have h1:(if v < u then v else u)=m1:=by rw [mnI,hm1]
   have h2:(if u < v then v else u)=m2:=by rw [mxI,hm2]
   rw [hm1,hm2] at on
   clear hx hpq hu hv hp' hq' rb rb2 mb ho hm1 hm2
   go_wp2_with fail
   go_quiet (fail)
   obtain ⟨wq,hwq⟩:∃ m,wr.drewN nq=m:=⟨_,rfl⟩
   have kd:Below wr.heap.size wr wq:=by rw [← hwq];exact below_drewN (Below.refl _ _) _
   replace FR:=zH (FR.out.fut kd)
   clear cx kd
   rw [hwq]
   clear hwq
   cases gaps with
   | false =>
    rw [if_neg (by decide)] at on
    injection on with on1 on2
    subst on1 on2
    go_wp2_with fail
    exact ⟨⟨k+1,by omega,by go_num,by rw [TS.out,OS.out],by rw [TS.out,OS.out],FR.out.out⟩,by simp [intOf];omega⟩
   | true =>
    rw [if_pos rfl] at on
    injection on with on1 on2
    have h3:(if 0 < m1 then 0 else m1)=o1:=by rw [mnI,← on1]
    have h4:(if m2 < 0 then 0 else m2)=o2:=by rw [mxI,← on2]
    clear on1 on2
    go_wp2_with fail
    exact ⟨⟨k+1,by omega,by go_num,by rw [TS.out,OS.out],by rw [TS.out,OS.out],FR.out.out⟩,by simp [intOf];omega⟩
  ·obtain rfl:k=n:=by omega
   have e:=HN.out
   rw [List.take_of_length_le (by omega)]
   go_wp2_with fail
   go_ret2
   exact ⟨rfl,FR.out.out⟩
theorem ends_int (a:Int) (A:Option Addr) (n cap:Nat) (l:List Int) (w:World) (hs:Sl (tInt .i64) w (blo w.heap.size) A n cap l) :
  Calls Tryz.prog 100 #[.int .i64 a,.slice A n cap] w fun e w'=>e=.returned (.tuple #[.int .i64 (ofR a l).1,.int .i64 (ofR a l).2])∧w=w':=by
 have hmax:n≤9223372036854775807:=Nat.le_trans hs.cap_le hs.max_le
 have HN:=zH hs.n_eq
 have HS:=zH hs
 clear hs
 go_enter Tryz.func100,Tryz.ntmps100
 go_wp2_with fail
 go_loopw [6,7,14] (fun u v ii wr=>∃ k:Nat,k≤n∧ii=.int .i64 k∧u=.int .i64 (ofR a (l.take k)).1∧v=.int .i64 (ofR a (l.take k)).2∧w=wr) (fun _ _ ii _=>n - (intOf ii).toNat)
 case atStart=>exact ⟨0,Nat.zero_le _,rfl,rfl,rfl,rfl⟩
 case round =>
  obtain ⟨k,hk,rfl,rfl,rfl,rfl⟩:=hrel
  by_cases hlt:k < n
  ·have p1:(k:Int) < (n:Int):=by omega
   obtain ⟨bz,oz,rfl,-,-,cx,-⟩:=HS.out.int_at k hlt
   have TS:=zH (take_snoc l k (l.getD k 0) (by rw [List.getD_eq_getElem?_getD,List.getElem?_eq_getElem (by have:=HN.out;omega)];rfl))
   obtain ⟨x,hx⟩:∃ x,l.getD k 0=x:=⟨_,rfl⟩
   rw [hx] at cx TS
   have OS:=zH (ofR_snoc a (l.take k) x)
   obtain ⟨⟨p,q⟩,hpq⟩:∃ r,ofR a (l.take k)=r:=⟨_,rfl⟩
   rw [hpq] at OS
   simp only [hpq] at OS ⊢
   obtain ⟨p',hp'⟩:∃ r,min p x=r:=⟨_,rfl⟩
   obtain ⟨q',hq'⟩:∃ r,max q x=r:=⟨_,rfl⟩
   have mn:(if x < p then x else p)=p':=by rw [mnI,hp']
   have mx:(if q < x then x else q)=q':=by rw [mxI,hq']
   rw [hp',hq'] at OS
   clear hx hpq hp' hq'
   go_wp2_with fail
   exact ⟨⟨k+1,by omega,by go_num,by rw [TS.out,OS.out],by rw [TS.out,OS.out],by trivial⟩,by simp [intOf];omega⟩
  ·obtain rfl:k=n:=by omega
   have e:=HN.out
   rw [List.take_of_length_le (by omega)]
   go_wp2_with fail
   go_ret2
   exact ⟨rfl,by trivial⟩
theorem ends_int8 (a:Int) (A:Option Addr) (n cap:Nat) (l:List Int) (w:World) (hs:Sl (tInt .i8) w (blo w.heap.size) A n cap l) :
  Calls Tryz.prog 123 #[.int .i8 a,.slice A n cap] w fun e w'=>e=.returned (.tuple #[.int .i8 (ofR a l).1,.int .i8 (ofR a l).2])∧w=w':=by
 have hmax:n≤9223372036854775807:=Nat.le_trans hs.cap_le hs.max_le
 have HN:=zH hs.n_eq
 have HS:=zH hs
 clear hs
 go_enter Tryz.func123,Tryz.ntmps123
 go_wp2_with fail
 go_loopw [6,7,14] (fun u v ii wr=>∃ k:Nat,k≤n∧ii=.int .i64 k∧u=.int .i8 (ofR a (l.take k)).1∧v=.int .i8 (ofR a (l.take k)).2∧w=wr) (fun _ _ ii _=>n - (intOf ii).toNat)
 case atStart=>exact ⟨0,Nat.zero_le _,rfl,rfl,rfl,rfl⟩
 case round =>
  obtain ⟨k,hk,rfl,rfl,rfl,rfl⟩:=hrel
  by_cases hlt:k < n
  ·have p1:(k:Int) < (n:Int):=by omega
   obtain ⟨bz,oz,rfl,-,-,cx,-⟩:=HS.out.int_at k hlt
   have TS:=zH (take_snoc l k (l.getD k 0) (by rw [List.getD_eq_getElem?_getD,List.getElem?_eq_getElem (by have:=HN.out;omega)];rfl))
   obtain ⟨x,hx⟩:∃ x,l.getD k 0=x:=⟨_,rfl⟩
   rw [hx] at cx TS
   have OS:=zH (ofR_snoc a (l.take k) x)
   obtain ⟨⟨p,q⟩,hpq⟩:∃ r,ofR a (l.take k)=r:=⟨_,rfl⟩
   rw [hpq] at OS
   simp only [hpq] at OS ⊢
   obtain ⟨p',hp'⟩:∃ r,min p x=r:=⟨_,rfl⟩
   obtain ⟨q',hq'⟩:∃ r,max q x=r:=⟨_,rfl⟩
   have mn:(if x < p then x else p)=p':=by rw [mnI,hp']
   have mx:(if q < x then x else q)=q':=by rw [mxI,hq']
   rw [hp',hq'] at OS
   clear hx hpq hp' hq'
   go_wp2_with fail
   exact ⟨⟨k+1,by omega,by go_num,by rw [TS.out,OS.out],by rw [TS.out,OS.out],by trivial⟩,by simp [intOf];omega⟩
  ·obtain rfl:k=n:=by omega
   have e:=HN.out
   rw [List.take_of_length_le (by omega)]
   go_wp2_with fail
   go_ret2
   exact ⟨rfl,by trivial⟩
theorem upside_any (lo hi:Int) (w:World) :
  Calls Tryz.prog 79 #[.agg #[.int .i8 lo,.int .i8 hi]] w fun e w'=>e=.returned (.bool (decide (hi < lo)))∧Below w.heap.size w w':=by
 have FR:=zH (Far.refl w)
 obtain ⟨w1,hw_w1,BR,k_w1⟩:=nB w #[.int .i8 lo,.int .i8 hi] 140
 replace FR:=zH (FR.out.fut k_w1)
 clear k_w1
 have c0:=BR.out.cell 0
 have c1:=BR.out.cell 1
 go_enter Tryz.func79,Tryz.ntmps79
 go_wp2_with fail
 go_ret
 exact ⟨rfl,FR.out.out⟩
theorem over_any (a:Int) (A:Option Addr) (n cap:Nat) (l:List Int) (w:World) (hs:Sl (tInt .i8) w (blo w.heap.size) A n cap l) :
  Calls Tryz.prog 114 #[.int .i8 a,.slice A n cap] w fun e w'=>e=.returned (.agg #[.int .i8 (ofR a l).1,.int .i8 (ofR a l).2])∧Below w.heap.size w w':=by
 have HS:=zH (Old.now hs)
 have FR:=zH (Far.refl w)
 obtain ⟨w1,hw_w1,BR,k_w1⟩:=nB w #[.int .i8 0,.int .i8 0] 140
 replace FR:=zH (FR.out.fut k_w1)
 clear k_w1
 have l1:w.heap.size < w1.heap.size:=by rw [← hw_w1];simp
 clear hs
 go_enter Tryz.func114,Tryz.ntmps114
 go_wp2_with (first|(go_at_call 123;refine (ends_int8 a A n cap l _ (HS.out.fut FR.out.out).all).mono ?_;rintro e w2 ⟨rfl,rfl⟩;clear hw_w1)|(refine sB 140 (.tmp 4) (.tmp 15) w.heap.size #[.int .i8 (ofR a l).1,.int .i8 (ofR a l).2] BR.out ?_;intro w3 B3 g3))
 refine ret_cell rfl B3 rfl Tryz.underlying140 (by kernel_rfl) rfl ?_
 exact ⟨rfl,(FR.out.away g3 (by omega)).out⟩
def sumsR (d:Node) (lo hi:Int):(Int × Int) × Int :=
 if holdsR (allR d.w d.bias lo hi d.za (decide (0 < d.p)))=true then (afterR (bothR (allR d.w d.bias lo hi d.za (decide (0 < d.p)))) d.qm d.qs d.qz d.lo d.hi,0) else ((0,0),10)
theorem sumsR_in (d:Node) (lo hi:Int):InK .i8 (sumsR d lo hi).1.1∧InK .i8 (sumsR d lo hi).1.2:=by
 unfold sumsR
 split
 ·exact afterR_in _ _ _ _ _ _
 ·exact ⟨by decide,by decide⟩
def RetR (x:(Int × Int) × Int) (w:World) (e:Ending) (w':World):Prop:=e=.returned (.tuple #[.agg #[.int .i8 x.1.1,.int .i8 x.1.2],.int .i64 x.2])∧Below w.heap.size w w'
theorem summed_any (d:Node) (W:Option Addr) (nw cw:Nat) (B:Option Addr) (nb cb:Nat) (lo hi:Int) (w:World) (hw:Sl (tInt .i8) w (blo w.heap.size) W nw cw d.w) (hb:Sl (tInt .i32) w (blo w.heap.size) B nb cb d.bias) (hd:NodeIn d)
  (hlo:InK .i8 lo) (hhi:InK .i8 hi) (mw:nw≤16384) (mb:nb≤16384) (hw1:1≤nw) :
  Calls Tryz.prog 111 #[.agg (nN d.kind d.a d.b d.k d.s d.p d.out d.za d.zb W nw cw B nb cb d.qm d.qs d.qz d.rm d.rs d.rz d.lo d.hi),.agg #[.int .i8 lo,.int .i8 hi]] w (RetR (sumsR d lo hi) w):=by
 have AL:=zH (fun w hw hb=>spanAll_any d W nw cw B nb cb lo hi w hw hb hd.za hlo hhi mw mb hw1)
 have HB:=zH (Old.now hb)
 have HW:=zH (Old.now hw)
 have FR:=zH (Far.refl w)
 have AF:=zH (fun a b w=>spanAfter_any a b d.qm d.qs d.qz d.lo d.hi w hd.qm hd.qz hd.lo hd.hi)
 obtain ⟨r,hr⟩:∃ r,sumsR d lo hi=r:=⟨_,rfl⟩
 rw [hr]
 unfold sumsR at hr
 obtain ⟨L,hL⟩:∃ L,allR d.w d.bias lo hi d.za (decide (0 < d.p))=L:=⟨_,rfl⟩
 rw [hL] at AL hr
 have VV:=zH hr.symm
 clear hw hb hd hlo hhi hr hL
 obtain ⟨w1,hw_w1,BN,k_w1⟩:=nB w (nN d.kind d.a d.b d.k d.s d.p d.out d.za d.zb W nw cw B nb cb d.qm d.qs d.qz d.rm d.rs d.rz d.lo d.hi) 70
 replace FR:=zH (FR.out.fut k_w1)
 clear k_w1
 obtain ⟨w2,hw_w2,BA,k_w2⟩:=nB w1 #[.int .i8 lo,.int .i8 hi] 140
 replace FR:=zH (FR.out.fut k_w2)
 replace BN:=zH (BN.out.fut k_w2)
 clear k_w2
 obtain ⟨w3,hw_w3,BR,k_w3⟩:=nB w2 #[.int .i8 0,.int .i8 0] 140
 replace FR:=zH (FR.out.fut k_w3)
 replace BN:=zH (BN.out.fut k_w3)
 replace BA:=zH (BA.out.fut k_w3)
 clear k_w3
 have l1:w.heap.size < w1.heap.size:=by rw [← hw_w1];simp
 have l2:w1.heap.size < w2.heap.size:=by rw [← hw_w2];simp
 have l3:w2.heap.size < w3.heap.size:=by rw [← hw_w3];simp
 have a0:=BA.out.cell 0
 have a1:=BA.out.cell 1
 go_enter Tryz.func111,Tryz.ntmps111
 go_wp2_with (refine lB 70 (.tmp 2) w.heap.size BN.out Tryz.underlying70 ?_)
 clear hw_w1 hw_w2 hw_w3 a0 a1
 refine (AL.out _ (HW.out.fut FR.out.out).all (HB.out.fut FR.out.out).all).mono ?_
 rintro e w4 ⟨A2,n2,c2,rfl,s2,hb⟩
 have S2:=zH (Old.now s2.old)
 clear s2 AL
 replace FR:=zH (FR.out.fut hb)
 replace BN:=zH (BN.out.fut hb)
 replace BA:=zH (BA.out.fut hb)
 replace BR:=zH (BR.out.fut hb)
 clear hb
 obtain ⟨ok,hok⟩:∃ b,holdsR L=b:=⟨_,rfl⟩
 have HO:=zH (fun w hs=>spanHolds_any A2 n2 c2 L w hs)
 rw [hok] at HO VV
 cases ok with
 | false =>
  rw [if_neg (by decide)] at VV
  go_wp2_with (first|(go_at_call 103;refine (HO.out _ S2.out.all).mono ?_;rintro e w5 ⟨rfl,hb⟩;replace FR:=zH (FR.out.fut hb);replace BR:=zH (BR.out.fut hb);clear hb)|(refine sB 140 (.tmp 4) (.tmp 18) w2.heap.size #[.int .i8 0,.int .i8 0] BR.out ?_;intro w6 B6 g6))
  refine rC B6 Tryz.underlying140 ?_
  exact ⟨by rw [VV.out];rfl,(FR.out.away g6 (by omega)).out⟩
 | true =>
  rw [if_pos rfl] at VV
  go_wp2_with (go_at_call 103;refine (HO.out _ S2.out.all).mono ?_;rintro e w5 ⟨rfl,hb⟩;replace FR:=zH (FR.out.fut hb);replace BR:=zH (BR.out.fut hb);replace BN:=zH (BN.out.fut hb);replace S2:=zH (S2.out.fut hb);clear hb)
  have E1:=zH (fun x:Ext w5=>calls_ext x (spanBoth_any A2 n2 c2 L x.1 (S2.out.all.later x.2 (Nat.le_refl _))))
  obtain ⟨⟨p,q⟩,hpq⟩:∃ r,bothR L=r:=⟨_,rfl⟩
  rw [hpq] at E1 VV
  simp only at E1
  have E2:=zH (fun x:Ext w5=>calls_ext x (AF.out p q x.1))
  have AI:=zH (afterR_in (p,q) d.qm d.qs d.qz d.lo d.hi)
  obtain ⟨⟨u,v⟩,huv⟩:∃ r,afterR (p,q) d.qm d.qs d.qz d.lo d.hi=r:=⟨_,rfl⟩
  rw [huv] at E2 VV AI
  simp only at E2
  have R1:=zH (fun x:Ext w5=>range_blk (off:=11) (vs:=[.int .i32 d.qm,.int .i64 d.qs,.int .i8 d.qz]) (BN.out.ext x) rfl)
  have d17:∀ x:Ext w5,x.1.cell? ⟨w.heap.size,17,none⟩=some (.int .i8 d.lo):=fun x=>(BN.out.ext x).cell 17
  have d18:∀ x:Ext w5,x.1.cell? ⟨w.heap.size,18,none⟩=some (.int .i8 d.hi):=fun x=>(BN.out.ext x).cell 18
  clear hpq huv HO AF
  refine wp_region_ext w5 (by kernel_rfl) (by kernel_rfl) (Below.refl _ _) ?_
  go_big_quiet_step (first|exact E1.out _)
  go_big_quiet_step (first|exact E1.out _)
  go_big_quiet_step (first|exact E1.out _)
  refine wpQuiet_load_mid (by kernel_rfl) 68 (.tmp 22) rfl w.heap.size 11 rfl _ _ (by rintro _ ⟨x,rfl⟩;exact R1.out x) Tryz.underlying68 rfl (by kernel_rfl) ?_
  simp only [pX]
  repeat (go_big_quiet_step (exact E2.out _))
  refine wpQuiet_nil ?_
  rintro _ ⟨⟨wa,hba⟩,rfl⟩
  replace FR:=zH (FR.out.fut hba)
  replace BR:=zH (BR.out.fut hba)
  clear hba E1 E2 R1 d17 d18
  go_wp2_with (refine sB 140 (.tmp 4) (.tmp 33) w2.heap.size #[.int .i8 u,.int .i8 v] BR.out ?_;intro w6 B6 g6)
  refine rC B6 Tryz.underlying140 ?_
  exact ⟨by rw [VV.out];rfl,(FR.out.away g6 (by omega)).out⟩
end Go.Proofs.YthjmghjfklkmbaaGreat
namespace Go.Proofs.YthjmghjfklkmbaaGreat
open Go.RowKit Go.ChangeShapes Go.WideShapes Fx
set_option maxRecDepth 100000
set_option maxHeartbeats 4000000
def joinV (d:Node) (x y:Int):Int:=w8 (heldV (roundV ((x - d.za)*d.qm) d.qs+roundV ((y - d.zb)*d.rm) d.rs+d.qz) d.lo d.hi)
theorem joinV_in (d:Node) (x y:Int):InK .i8 (joinV d x y):=w8_in _
def mayV (d:Node):Bool:=quantOk d.qm d.qs && quantOk d.rm d.rs
theorem prod8 {a b m:Int} (ha:InK .i8 a) (hb:InK .i8 b) (hm:InK .i32 m):((a - b)*m).natAbs≤547608330240:=by
 rw [inK_i8] at ha hb
 rw [inK_i32] at hm
 exact Nat.le_trans (natAbs_mul_le (m:=255) (n:=2147483648) (by omega) (by omega)) (by decide)
theorem joinMay_any (d:Node) (W:Option Addr) (nw cw:Nat) (B:Option Addr) (nb cb:Nat) (w:World) :
  Calls Tryz.prog 119 #[.agg (nN d.kind d.a d.b d.k d.s d.p d.out d.za d.zb W nw cw B nb cb d.qm d.qs d.qz d.rm d.rs d.rz d.lo d.hi)] w fun e w'=>e=.returned (.bool (mayV d))∧Below w.heap.size w w':=by
 have Q1:=zH (fun w=>fixRight_any d.qm d.qs d.qz w)
 have Q2:=zH (fun w=>fixRight_any d.rm d.rs d.rz w)
 have FR:=zH (Far.refl w)
 obtain ⟨w1,hw_w1,BN,k_w1⟩:=nB w (nN d.kind d.a d.b d.k d.s d.p d.out d.za d.zb W nw cw B nb cb d.qm d.qs d.qz d.rm d.rs d.rz d.lo d.hi) 70
 replace FR:=zH (FR.out.fut k_w1)
 clear k_w1
 unfold mayV
 obtain ⟨q,hq⟩:∃ q,quantOk d.qm d.qs=q:=⟨_,rfl⟩
 obtain ⟨r,hr⟩:∃ r,quantOk d.rm d.rs=r:=⟨_,rfl⟩
 rw [hq] at Q1 ⊢
 rw [hr] at Q2 ⊢
 clear hq hr
 cases q with
 | false =>
  go_enter Tryz.func119,Tryz.ntmps119
  go_wp2_with (first|(refine wpList_load_blk rfl 68 (.tmp 3) rfl w.heap.size 11 rfl _ (nN d.kind d.a d.b d.k d.s d.p d.out d.za d.zb W nw cw B nb cb d.qm d.qs d.qz d.rm d.rs d.rz d.lo d.hi) #[.int .i32 d.qm,.int .i64 d.qs,.int .i8 d.qz] _ BN.out Tryz.underlying68 rfl (by kernel_rfl) rfl ?_)|(go_at_call 89;refine (Q1.out _).mono ?_;rintro e w2 ⟨rfl,hb⟩))
  go_ret
  exact ⟨rfl,(FR.out.fut hb).out⟩
 | true =>
  go_enter Tryz.func119,Tryz.ntmps119
  go_wp2_with (first|(refine wpList_load_blk rfl 68 (.tmp 3) rfl w.heap.size 11 rfl _ (nN d.kind d.a d.b d.k d.s d.p d.out d.za d.zb W nw cw B nb cb d.qm d.qs d.qz d.rm d.rs d.rz d.lo d.hi) #[.int .i32 d.qm,.int .i64 d.qs,.int .i8 d.qz] _ BN.out Tryz.underlying68 rfl (by kernel_rfl) rfl ?_)|(refine wpList_load_blk rfl 68 (.tmp 7) rfl w.heap.size 14 rfl _ (nN d.kind d.a d.b d.k d.s d.p d.out d.za d.zb W nw cw B nb cb d.qm d.qs d.qz d.rm d.rs d.rz d.lo d.hi) #[.int .i32 d.rm,.int .i64 d.rs,.int .i8 d.rz] _ BN.out Tryz.underlying68 rfl (by kernel_rfl) rfl ?_)|(go_at_call 89;first|(with_reducible refine (Q1.out _).mono ?_;rintro e w2 ⟨rfl,hb⟩;replace FR:=zH (FR.out.fut hb);replace BN:=zH (BN.out.fut hb);clear hb hw_w1;have c14:=BN.out.cell 14;have c15:=BN.out.cell 15;have c16:=BN.out.cell 16;simp only [gX] at c14 c15 c16)|(with_reducible refine (Q2.out _).mono ?_;rintro e w3 ⟨rfl,hb⟩)))
  go_ret
  exact ⟨by cases r <;> rfl,(FR.out.fut hb).out⟩
theorem joinScaled_any (x zz m s z:Int) (w:World) (hx:InK .i8 x) (hz:InK .i8 zz) (hm:InK .i32 m) :
  Calls Tryz.prog 121 #[.int .i8 x,.int .i8 zz,.agg #[.int .i32 m,.int .i64 s,.int .i8 z]] w fun e w'=>e=.returned (.int .i64 (roundV ((x - zz)*m) s))∧Below w.heap.size w w':=by
 rw [inK_i8] at hx hz
 obtain ⟨x1,x2⟩:=hx
 obtain ⟨z1,z2⟩:=hz
 have SC:=zH (fun w=>scale_any (x - zz) m s w (by rw [inK_i32];omega) hm)
 have FR:=zH (Far.refl w)
 obtain ⟨w1,hw_w1,BQ,k_w1⟩:=nB w #[.int .i32 m,.int .i64 s,.int .i8 z] 68
 replace FR:=zH (FR.out.fut k_w1)
 clear k_w1
 have d0:=BQ.out.cell 0
 have d1:=BQ.out.cell 1
 clear hm
 go_enter Tryz.func121,Tryz.ntmps121
 go_wp2_with (go_at_call 126;refine (SC.out _).mono ?_;rintro e w2 ⟨rfl,hb⟩)
 go_ret
 exact ⟨rfl,(FR.out.fut hb).out⟩
theorem joinOne_any (x y:Int) (d:Node) (W:Option Addr) (nw cw:Nat) (B:Option Addr) (nb cb:Nat) (w:World) (hx:InK .i8 x) (hy:InK .i8 y) (hd:NodeIn d) (hm:mayV d=true) :
  Calls Tryz.prog 112 #[.int .i8 x,.int .i8 y,.agg (nN d.kind d.a d.b d.k d.s d.p d.out d.za d.zb W nw cw B nb cb d.qm d.qs d.qz d.rm d.rs d.rz d.lo d.hi)] w fun e w'=>e=.returned (.int .i8 (joinV d x y))∧Below w.heap.size w w':=by
 have b1:=roundV_le _ d.qs _ (prod8 hx hd.za hd.qm)
 have b2:=roundV_le _ d.rs _ (prod8 hy hd.zb hd.rm)
 have MA:=zH (fun w=>joinMay_any d W nw cw B nb cb w)
 rw [hm] at MA
 have S1:=zH (fun w=>joinScaled_any x d.za d.qm d.qs d.qz w hx hd.za hd.qm)
 have S2:=zH (fun w=>joinScaled_any y d.zb d.rm d.rs d.rz w hy hd.zb hd.rm)
 unfold joinV
 obtain ⟨r1,h1⟩:∃ r,roundV ((x - d.za)*d.qm) d.qs=r:=⟨_,rfl⟩
 obtain ⟨r2,h2⟩:∃ r,roundV ((y - d.zb)*d.rm) d.rs=r:=⟨_,rfl⟩
 rw [h1] at S1 b1 ⊢
 rw [h2] at S2 b2 ⊢
 have hz:=hd.qz
 rw [inK_i8] at hz
 obtain ⟨z1,z2⟩:=hz
 have e1:IntKind.i64.wrap (r1+r2)=r1+r2:=IntWalk.i64_in _ (by omega)
 have e2:IntKind.i64.wrap d.qz=d.qz:=IntWalk.i64_in _ (by omega)
 have e3:IntKind.i64.wrap (r1+r2+d.qz)=r1+r2+d.qz:=IntWalk.i64_in _ (by omega)
 have CL:=zH (fun w=>clamp_any (r1+r2+d.qz) d.lo d.hi w hd.lo hd.hi)
 have FR:=zH (Far.refl w)
 obtain ⟨w1,hw_w1,BN,k_w1⟩:=nB w (nN d.kind d.a d.b d.k d.s d.p d.out d.za d.zb W nw cw B nb cb d.qm d.qs d.qz d.rm d.rs d.rz d.lo d.hi) 70
 replace FR:=zH (FR.out.fut k_w1)
 clear k_w1
 clear h1 h2 hm hx hy hd
 go_enter Tryz.func112,Tryz.ntmps112
 go_wp2_with (first|(refine lB 70 (.tmp 5) w.heap.size BN.out Tryz.underlying70 ?_)|(go_at_call 119;refine (MA.out _).mono ?_;rintro e w2 ⟨rfl,hb⟩;replace FR:=zH (FR.out.fut hb);replace BN:=zH (BN.out.fut hb);clear hb hw_w1))
 have c7:∀ q:Ext w2,q.1.cell? ⟨w.heap.size,7,none⟩=some (.int .i8 d.za):=fun q=>(BN.out.ext q).cell 7
 have c8:∀ q:Ext w2,q.1.cell? ⟨w.heap.size,8,none⟩=some (.int .i8 d.zb):=fun q=>(BN.out.ext q).cell 8
 have c11:∀ q:Ext w2,q.1.cell? ⟨w.heap.size,11,none⟩=some (.int .i32 d.qm):=fun q=>(BN.out.ext q).cell 11
 have c12:∀ q:Ext w2,q.1.cell? ⟨w.heap.size,12,none⟩=some (.int .i64 d.qs):=fun q=>(BN.out.ext q).cell 12
 have c13:∀ q:Ext w2,q.1.cell? ⟨w.heap.size,13,none⟩=some (.int .i8 d.qz):=fun q=>(BN.out.ext q).cell 13
 have c14:∀ q:Ext w2,q.1.cell? ⟨w.heap.size,14,none⟩=some (.int .i32 d.rm):=fun q=>(BN.out.ext q).cell 14
 have c15:∀ q:Ext w2,q.1.cell? ⟨w.heap.size,15,none⟩=some (.int .i64 d.rs):=fun q=>(BN.out.ext q).cell 15
 have c16:∀ q:Ext w2,q.1.cell? ⟨w.heap.size,16,none⟩=some (.int .i8 d.rz):=fun q=>(BN.out.ext q).cell 16
 have c17:∀ q:Ext w2,q.1.cell? ⟨w.heap.size,17,none⟩=some (.int .i8 d.lo):=fun q=>(BN.out.ext q).cell 17
 have c18:∀ q:Ext w2,q.1.cell? ⟨w.heap.size,18,none⟩=some (.int .i8 d.hi):=fun q=>(BN.out.ext q).cell 18
 have E1:=zH (fun q:Ext w2=>calls_ext q (S1.out q.1))
 have E2:=zH (fun q:Ext w2=>calls_ext q (S2.out q.1))
 have E3:=zH (fun q:Ext w2=>calls_ext q ((CL.out q.1).mono (fun e w' h=>⟨h.1,by rw [← h.2];exact Below.refl _ _⟩)))
 refine wp_region_ext w2 (by kernel_rfl) (by kernel_rfl) (Below.refl _ _) ?_
 repeat (go_big_quiet_step (first|(with_reducible exact E1.out _)|(with_reducible exact E2.out _)|(with_reducible exact E3.out _)))
 refine wpQuiet_nil ?_
 rintro _ ⟨⟨w3,hB⟩,rfl⟩
 go_wp2_with fail
 go_ret
 exact ⟨rfl,(FR.out.fut hB).out⟩
theorem rjoinOne_any (x y:Int) (d:Node) (W:Option Addr) (nw cw:Nat) (B:Option Addr) (nb cb:Nat) (w:World) (hx:InK .i8 x) (hy:InK .i8 y) (hd:NodeIn d) (hm:mayV d=true) :
  Calls Tryz.prog 74 #[.int .i8 x,.int .i8 y,.agg (nN d.kind d.a d.b d.k d.s d.p d.out d.za d.zb W nw cw B nb cb d.qm d.qs d.qz d.rm d.rs d.rz d.lo d.hi)] w fun e w'=>e=.returned (.int .i8 (joinV d x y))∧Below w.heap.size w w':=by
 have p1:=prod8 hx hd.za hd.qm
 have p2:=prod8 hy hd.zb hd.rm
 have b1:=roundV_le _ d.qs _ p1
 have b2:=roundV_le _ d.rs _ p2
 have Q1:=zH (fun w=>rfixRight_any d.qm d.qs d.qz w)
 have Q2:=zH (fun w=>rfixRight_any d.rm d.rs d.rz w)
 unfold mayV at hm
 simp only [Bool.and_eq_true] at hm
 rw [hm.1] at Q1
 rw [hm.2] at Q2
 unfold joinV
 obtain ⟨m1,k1⟩:∃ r,(x - d.za)*d.qm=r:=⟨_,rfl⟩
 obtain ⟨m2,k2⟩:∃ r,(y - d.zb)*d.rm=r:=⟨_,rfl⟩
 rw [k1] at b1 p1 ⊢
 rw [k2] at b2 p2 ⊢
 have R1:=zH (fun w=>rround_any m1 d.qs w (by rw [inK_i64];omega))
 have R2:=zH (fun w=>rround_any m2 d.rs w (by rw [inK_i64];omega))
 obtain ⟨r1,h1⟩:∃ r,roundV m1 d.qs=r:=⟨_,rfl⟩
 obtain ⟨r2,h2⟩:∃ r,roundV m2 d.rs=r:=⟨_,rfl⟩
 rw [h1] at R1 b1 ⊢
 rw [h2] at R2 b2 ⊢
 have hz:=hd.qz
 have hza:=hd.za
 have hzb:=hd.zb
 have hlo:=hd.lo
 have hhi:=hd.hi
 have hqm:=hd.qm
 have hrm:=hd.rm
 rw [inK_i8] at hz hza hzb hlo hhi hx hy
 rw [inK_i32] at hqm hrm
 obtain ⟨z1,z2⟩:=hz
 obtain ⟨z3,z4⟩:=hza
 obtain ⟨z5,z6⟩:=hzb
 obtain ⟨z7,z8⟩:=hlo
 obtain ⟨z9,z10⟩:=hhi
 obtain ⟨y1,y2⟩:=hx
 obtain ⟨y3,y4⟩:=hy
 obtain ⟨y5,y6⟩:=hqm
 obtain ⟨y7,y8⟩:=hrm
 have p3:-547608330240≤m1∧m1≤547608330240:=by omega
 have p4:-547608330240≤m2∧m2≤547608330240:=by omega
 have p5:-547608330240≤r1∧r1≤547608330240:=by omega
 have p6:-547608330240≤r2∧r2≤547608330240:=by omega
 obtain ⟨p3,p3'⟩:=p3
 obtain ⟨p4,p4'⟩:=p4
 obtain ⟨p5,p5'⟩:=p5
 obtain ⟨p6,p6'⟩:=p6
 clear p1 p2 b1 b2 h1 h2 hm hd
 have CL:=zH (fun w=>rheld_any (r1+r2+d.qz) d.lo d.hi w)
 have FR:=zH (Far.refl w)
 obtain ⟨w1,hw_w1,BN,k_w1⟩:=nB w (nN d.kind d.a d.b d.k d.s d.p d.out d.za d.zb W nw cw B nb cb d.qm d.qs d.qz d.rm d.rs d.rz d.lo d.hi) 70
 replace FR:=zH (FR.out.fut k_w1)
 clear k_w1
 go_enter Tryz.func74,Tryz.ntmps74
 go_wp2_with (first|(refine wpList_load_blk rfl 68 (.tmp 9) rfl w.heap.size 11 rfl _ (nN d.kind d.a d.b d.k d.s d.p d.out d.za d.zb W nw cw B nb cb d.qm d.qs d.qz d.rm d.rs d.rz d.lo d.hi) #[.int .i32 d.qm,.int .i64 d.qs,.int .i8 d.qz] _ BN.out Tryz.underlying68 rfl (by kernel_rfl) rfl ?_)|(refine wpList_load_blk rfl 68 (.tmp 14) rfl w.heap.size 14 rfl _ (nN d.kind d.a d.b d.k d.s d.p d.out d.za d.zb W nw cw B nb cb d.qm d.qs d.qz d.rm d.rs d.rz d.lo d.hi) #[.int .i32 d.rm,.int .i64 d.rs,.int .i8 d.rz] _ BN.out Tryz.underlying68 rfl (by kernel_rfl) rfl ?_)|(go_at_call 60;first|(with_reducible refine (Q1.out _).mono ?_;rintro e w2 ⟨rfl,hb⟩;replace FR:=zH (FR.out.fut hb);replace BN:=zH (BN.out.fut hb);clear hb;have c14:=BN.out.cell 14;have c15:=BN.out.cell 15;have c16:=BN.out.cell 16;simp only [gX] at c14 c15 c16)|(with_reducible refine (Q2.out _).mono ?_;rintro e w3 ⟨rfl,hb⟩;replace FR:=zH (FR.out.fut hb);replace BN:=zH (BN.out.fut hb);clear hb c14 c15 c16 hw_w1;have c7:=BN.out.cell 7;have c11:=BN.out.cell 11;have c12:=BN.out.cell 12)))
 go_wp2_with (go_at_call 97;with_reducible refine (R1.out _).mono ?_;rintro e w4 ⟨rfl,hb⟩;replace FR:=zH (FR.out.fut hb);replace BN:=zH (BN.out.fut hb);clear hb c7 c11 c12;have c8:=BN.out.cell 8;have c14:=BN.out.cell 14;have c15:=BN.out.cell 15)
 go_wp2_with (go_at_call 97;with_reducible refine (R2.out _).mono ?_;rintro e w5 ⟨rfl,hb⟩;replace FR:=zH (FR.out.fut hb);replace BN:=zH (BN.out.fut hb);clear hb c8 c14 c15;have c13:=BN.out.cell 13;have c17:=BN.out.cell 17;have c18:=BN.out.cell 18)
 go_wp2_with (go_at_call 98;refine (CL.out _).mono ?_;rintro e w6 ⟨rfl,rfl⟩)
 go_ret
 exact ⟨rfl,FR.out.out⟩
end Go.Proofs.YthjmghjfklkmbaaGreat
