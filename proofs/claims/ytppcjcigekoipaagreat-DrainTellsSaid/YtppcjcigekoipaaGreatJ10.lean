/-
  Between which numbers all rows of weights lie (layer 24): span.All, Holds, Both.
  The requests of a store as a map whose keys are 1, 2, .. (layer 42).
-/
import Derived.Test.YtppcjcigekoipaaGreatJ09
import Derived.Maps.RangeWalk
set_option linter.unusedVariables false
set_option linter.unusedSimpArgs false
namespace Go.Proofs.YtppcjcigekoipaaGreat
open Go.RowKit Go.ChangeShapes Go.WideShapes
set_option maxRecDepth 100000
set_option maxHeartbeats 4000000
def tRg (k:IntKind):Ty (Int × Int):=tPair (tInt k) (tInt k)
theorem ei_range:EI Tryz.prog 257 280 (.agg #[.int .i64 0,.int .i64 0]) 2 16:=⟨Tryz.underlying257,by kernel_rfl,rfl,by decide⟩
theorem rg_rep {k:IntKind} {w:World} {S:Nat → Prop} {a b:Int} (ha:InK k a) (hb:InK k b):(tRg k).rep w S [.int k a,.int k b] (a,b):=⟨_,_,rfl,⟨rfl,ha⟩,rfl,hb⟩
theorem Sl.rg_at {k:IntKind} {w:World} {S:Nat → Prop} {A:Option Addr} {n cap:Nat} {l:List (Int × Int)} (h:Sl (tRg k) w S A n cap l) (i:Nat) (hi:i < n) :
  ∃ p b off,l[i]?=some p∧A=some ⟨b,off,none⟩∧S b∧b < w.heap.size∧InK k p.1∧InK k p.2∧w.rangeAt b (off+i*2) [.int k p.1,.int k p.2]:=by
 obtain ⟨x,b,off,xs,hx,hA,hS,hb,hr,hl,hc⟩:=h.cells i hi (by show 0 < 2;decide)
 obtain ⟨_,_,rfl,⟨rfl,h1⟩,rfl,h2⟩:=hr
 refine ⟨x,b,off,hx,hA,hS,hb,h1,h2,fun j v hv=>?_⟩
 have:=hc j v hv
 rw [Nat.add_assoc];exact this
theorem holds_at {l:List (Int × Int)} {k:Nat} {p:Int × Int} (hx:l[k]?=some p) (h:¬ (-2147483648≤p.1∧p.2≤2147483647)):holdsR l=false:=by
 rw [Bool.eq_false_iff]
 intro hh
 unfold holdsR at hh
 rw [List.all_eq_true] at hh
 have:=hh p (List.mem_of_getElem? hx)
 rw [Bool.and_eq_true,decide_eq_true_eq,decide_eq_true_eq] at this
 exact h this
theorem spanHolds_any (A:Option Addr) (n cap:Nat) (l:List (Int × Int)) (w:World) (hs:Sl (tRg .i64) w (blo w.heap.size) A n cap l) :
  Calls Tryz.prog 167 #[.slice A n cap] w fun e w'=>e=.returned (.bool (holdsR l))∧Below w.heap.size w w':=by
 have hmax:n≤9223372036854775807:=Nat.le_trans hs.cap_le hs.max_le
 have HN:=zH hs.n_eq
 have HS:=zH (Old.now hs)
 have FR:=zH (Far.refl w)
 clear hs
 go_enter Tryz.func167,Tryz.ntmps167
 go_wp2_with fail
 go_loopw [7] (fun ii wr=>∃ k:Nat,k≤n∧ii=.int .i64 k∧holdsR (l.take k)=true∧Below w.heap.size w wr) (fun ii _=>n - (intOf ii).toNat)
 case atStart=>exact ⟨0,Nat.zero_le _,rfl,rfl,FR.out.out⟩
 case round =>
  obtain ⟨k,hk,rfl,hh,hg⟩:=hrel
  replace HS:=zH (HS.out.fut hg)
  replace FR:=zH (FR.out.fut hg)
  have HH:=zH hh
  clear hg hh
  by_cases hlt:k < n
  ·have p1:(k:Int) < (n:Int):=by omega
   obtain ⟨⟨x,y⟩,bz,oz,hx,rfl,-,-,-,-,rg⟩:=HS.out.out.rg_at k hlt
   have RG:=zH rg
   have TS:=zH (take_snoc l k _ hx)
   have HX:=zH hx
   simp only at RG
   clear rg hx
   obtain ⟨w3,hw_w3,BX,k_w3⟩:=nB wr #[.int .i64 x,.int .i64 y] 280
   replace FR:=zH (FR.out.fut k_w3)
   clear k_w3
   have c0:=BX.out.cell 0
   have c1:=BX.out.cell 1
   by_cases h1:x < -2147483648
   ·have t1:decide (x < -2147483648)=true:=by simpa using h1
    go_wp2_with (refine wpList_load_mid rfl 280 (.tmp 9) rfl bz (oz+k*2) rfl _ _ RG.out Tryz.underlying280 rfl (by kernel_rfl) ?_)
    go_ret
    exact ⟨by rw [holds_at HX.out (by simp only;omega)];rfl,FR.out.out⟩
   have t1:decide (x < -2147483648)=false:=by simpa using h1
   by_cases h2:2147483647 < y
   ·have t2:decide (2147483647 < y)=true:=by simpa using h2
    go_wp2_with (refine wpList_load_mid rfl 280 (.tmp 9) rfl bz (oz+k*2) rfl _ _ RG.out Tryz.underlying280 rfl (by kernel_rfl) ?_)
    go_ret
    exact ⟨by rw [holds_at HX.out (by simp only;omega)];rfl,FR.out.out⟩
   have t2:decide (2147483647 < y)=false:=by simpa using h2
   have NH:=zH (show holdsR (l.take (k+1))=true by rw [TS.out,holdsR_snoc,HH.out];simp only [Bool.true_and,Bool.and_eq_true,decide_eq_true_eq];omega)
   clear h1 h2
   go_wp2_with (refine wpList_load_mid rfl 280 (.tmp 9) rfl bz (oz+k*2) rfl _ _ RG.out Tryz.underlying280 rfl (by kernel_rfl) ?_)
   exact ⟨⟨k+1,by omega,by go_num,NH.out,FR.out.out⟩,by simp [intOf];omega⟩
  ·obtain rfl:k=n:=by omega
   have e:=HN.out
   rw [List.take_of_length_le (by omega)] at HH
   go_wp2_with fail
   go_ret
   exact ⟨by rw [HH.out];rfl,FR.out.out⟩
theorem spanBoth_any (A:Option Addr) (n cap:Nat) (l:List (Int × Int)) (w:World) (hs:Sl (tRg .i64) w (blo w.heap.size) A n cap l) :
  Calls Tryz.prog 200 #[.slice A n cap] w fun e w'=>e=.returned (.agg #[.int .i64 (bothR l).1,.int .i64 (bothR l).2])∧Below w.heap.size w w':=by
 have hmax:n≤9223372036854775807:=Nat.le_trans hs.cap_le hs.max_le
 have HN:=zH hs.n_eq
 have HS:=zH (Old.now hs)
 have FR:=zH (Far.refl w)
 obtain ⟨w1,hw_w1,BR,k_w1⟩:=nB w #[.int .i64 0,.int .i64 0] 280
 replace FR:=zH (FR.out.fut k_w1)
 clear k_w1
 have l1:w.heap.size < w1.heap.size:=by rw [← hw_w1];simp
 by_cases h0:n=0
 ·subst h0
  obtain rfl:l=[]:=List.eq_nil_of_length_eq_zero HN.out
  clear hs
  go_enter Tryz.func200,Tryz.ntmps200
  go_wp2_with (refine sB 280 (.tmp 2) (.tmp 9) w.heap.size #[.int .i64 0,.int .i64 0] BR.out ?_;intro w3 B3 g3)
  refine ret_cell rfl B3 rfl Tryz.underlying280 (by kernel_rfl) rfl ?_
  exact ⟨rfl,(FR.out.away g3 (by omega)).out⟩
 have t0:((n:Int) == 0)=false:=by simp;omega
 have nh:=Nat.pos_of_ne_zero h0
 obtain ⟨⟨x,y⟩,bz,oz,hx,hA,-,-,ix,iy,rg⟩:=hs.rg_at 0 nh
 have B0:=zH (show bothR l=bothF l (x,y) by unfold bothR;rw [List.getD_eq_getElem?_getD,hx];rfl)
 have RG:=zH (rangeAt_later rg (show Below w.heap.size w w1 by rw [← hw_w1];exact (Below.refl _ _).alloc (Nat.le_refl _) _))
 simp only [Nat.zero_mul,Nat.add_zero] at RG
 subst hA
 clear rg ix iy hx hs
 obtain ⟨w2,hw_w2,BO,k_w2⟩:=nB w1 #[.int .i64 x,.int .i64 y] 280
 replace FR:=zH (FR.out.fut k_w2)
 replace BR:=zH (BR.out.fut k_w2)
 clear k_w2
 have l2:w1.heap.size < w2.heap.size:=by rw [← hw_w2];simp
 go_enter Tryz.func200,Tryz.ntmps200
 go_wp2_with (refine wpList_load_mid rfl 280 (.tmp 11) rfl bz oz rfl _ _ RG.out Tryz.underlying280 rfl (by kernel_rfl) ?_)
 clear hw_w1 hw_w2 RG
 have GR:=zH (grS w2 (some w1.heap.size))
 go_loopw [15] (fun ii wr=>∃ k:Nat,k≤n∧ii=.int .i64 k∧w2.grownBy wr (some w1.heap.size)∧Blk wr w1.heap.size 280 #[.int .i64 (bothF (l.take k) (x,y)).1,.int .i64 (bothF (l.take k) (x,y)).2]) (fun ii _=>n - (intOf ii).toNat)
 case atStart=>exact ⟨0,Nat.zero_le _,rfl,GR.out,BO.out⟩
 case round =>
  obtain ⟨k,hk,rfl,hg,hB⟩:=hrel
  have G:=zH hg
  have zr:=hg.size
  replace HS:=zH ((HS.out.fut FR.out.out).away hg (by omega))
  replace FR:=zH (FR.out.away hg (by omega))
  replace BR:=zH (BR.out.away hg (by omega))
  have BX:=zH hB
  clear hg hB BO GR
  by_cases hlt:k < n
  ·have p1:(k:Int) < (n:Int):=by omega
   obtain ⟨⟨u,v⟩,bz',oz',hu,hA,-,-,-,-,rg⟩:=HS.out.out.rg_at k hlt
   obtain ⟨rfl,rfl⟩:bz=bz'∧oz=oz':=by simpa using hA
   have RG:=zH rg
   have TS:=zH (take_snoc l k _ hu)
   have BS:=zH (bothF_snoc (l.take k) (x,y) (u,v))
   obtain ⟨⟨p,q⟩,hpq⟩:∃ r,bothF (l.take k) (x,y)=r:=⟨_,rfl⟩
   rw [hpq] at BX BS
   simp only at BX BS RG
   obtain ⟨p',hp'⟩:∃ r,min p u=r:=⟨_,rfl⟩
   obtain ⟨q',hq'⟩:∃ r,max q v=r:=⟨_,rfl⟩
   have mn:(if u < p then u else p)=p':=by rw [mnI,hp']
   have mx:(if q < v then v else q)=q':=by rw [mxI,hq']
   rw [hp',hq'] at BS
   clear rg hu hA hpq hp' hq'
   have RR:=zH (Far.refl wr)
   obtain ⟨w3,hw_w3,BE,k_w3⟩:=nB wr #[.int .i64 u,.int .i64 v] 280
   replace BX:=zH (BX.out.fut k_w3)
   replace FR:=zH (FR.out.fut k_w3)
   replace BR:=zH (BR.out.fut k_w3)
   replace RR:=zH (RR.out.fut k_w3)
   clear k_w3
   have c0:=BX.out.cell 0
   have c1:=BX.out.cell 1
   have e0:=BE.out.cell 0
   have e1:=BE.out.cell 1
   go_wp2_with (first|(refine wpList_load_mid rfl 280 (.tmp 17) rfl bz (oz+k*2) rfl _ _ RG.out Tryz.underlying280 rfl (by kernel_rfl) ?_)|(refine sB 280 (.tmp 3) (.tmp 29) w1.heap.size #[.int .i64 p',.int .i64 q'] BX.out ?_;intro w4 B4 g4))
   exact ⟨⟨k+1,by omega,by go_num,grT G.out (grT (grO RR.out.out) g4),by rw [TS.out,BS.out];exact B4⟩,by simp [intOf];omega⟩
  ·obtain rfl:k=n:=by omega
   have e:=HN.out
   rw [List.take_of_length_le (by omega)] at BX
   go_wp2_with (first|(refine lB 280 (.tmp 3) w1.heap.size BX.out Tryz.underlying280 ?_)|(refine sB 280 (.tmp 2) (.tmp 31) w.heap.size #[.int .i64 (bothF l (x,y)).1,.int .i64 (bothF l (x,y)).2] BR.out ?_;intro w3 B3 g3))
   refine ret_cell rfl B3 rfl Tryz.underlying280 (by kernel_rfl) rfl ?_
   exact ⟨by rw [B0.out],(FR.out.away g3 (by omega)).out⟩
theorem allR_range {w bias:List Int} {lo hi z:Int} {gaps:Bool} (h0:¬ bias.length=0) (h1:w.length % bias.length=0):allR w bias lo hi z gaps=(List.range bias.length).map fun o=>rowR (bias.getD o 0) lo hi z gaps (rowL w (w.length / bias.length) o):=by
 unfold allR;rw [if_neg (by rintro (h|h);exact h0 h;exact h h1)]
theorem allR_bad {w bias:List Int} {lo hi z:Int} {gaps:Bool} (h:bias.length=0 ∨ ¬ w.length % bias.length=0):allR w bias lo hi z gaps=[]:=by unfold allR;rw [if_pos h]
theorem rowL_in {w:List Int} {each o:Nat} (h:∀ i,InK .i8 (w.getD i 0)) (i:Nat):InK .i8 ((rowL w each o).getD i 0):=by
 unfold rowL
 rw [List.getD_eq_getElem?_getD,List.getElem?_take]
 split
 ·rw [List.getElem?_drop]
  have:=h (o*each+i)
  rwa [List.getD_eq_getElem?_getD] at this
 ·decide
theorem spanAll_any (d:Node) (W:Option Addr) (nw cw:Nat) (B:Option Addr) (nb cb:Nat) (lo hi:Int) (w:World) (hw:Sl (tInt .i8) w (blo w.heap.size) W nw cw d.w) (hb:Sl (tInt .i32) w (blo w.heap.size) B nb cb d.bias) (hz:InK .i8 d.za)
  (hlo:InK .i8 lo) (hhi:InK .i8 hi) (mw:nw≤16384) (mb:nb≤16384) (hw1:1≤nw) :
  Calls Tryz.prog 166 #[.agg (nN d.kind d.a d.b d.k d.s d.p d.out d.za d.zb W nw cw B nb cb d.qm d.qs d.qz d.rm d.rs d.rz d.lo d.hi),.int .i8 lo,.int .i8 hi] w (RetSl (tRg .i64) w (allR d.w d.bias lo hi d.za (decide (0 < d.p)))):=by
 have HB:=zH (Old.now hb)
 have HW:=zH (Old.now hw)
 have NB:=hb.n_eq
 have NW:=hw.n_eq
 have FR:=zH (Far.refl w)
 obtain ⟨w1,hw_w1,BN,k_w1⟩:=nB w (nN d.kind d.a d.b d.k d.s d.p d.out d.za d.zb W nw cw B nb cb d.qm d.qs d.qz d.rm d.rs d.rz d.lo d.hi) 87
 replace FR:=zH (FR.out.fut k_w1)
 clear k_w1
 have l1:w.heap.size < w1.heap.size:=by rw [← hw_w1];simp
 have n5:=BN.out.cell 5
 have n7:=BN.out.cell 7
 have n9:=BN.out.cell 9
 have n10:=BN.out.cell 10
 simp only [gX] at n5 n7 n9 n10
 by_cases h0:nb=0
 ·subst h0
  rw [allR_bad (.inl NB)]
  clear hw hb NB NW
  go_enter Tryz.func166,Tryz.ntmps166
  go_wp2_with fail
  go_ret
  exact ⟨none,0,0,rfl,Sl.nil _ _ _,FR.out.out⟩
 have z0:(nb:Int) ≠ 0:=by omega
 have t0:((nb:Int) == 0)=false:=by simpa using h0
 obtain ⟨rm,hrm⟩:∃ x,nw % nb=x:=⟨_,rfl⟩
 have r1:(nw:Int).tmod (nb:Int)=(rm:Int):=by rw [← hrm,Int.tmod_eq_emod_of_nonneg (by omega)];simp
 have hrmb:rm < nb:=by rw [← hrm];exact Nat.mod_lt _ (by omega)
 have r2:IntKind.i64.wrap (rm:Int)=(rm:Int):=IntWalk.i64_in _ (by omega)
 by_cases h1:rm=0
 rotate_left
 ·have t1:((rm:Int) != 0)=true:=by simpa using h1
  rw [allR_bad (.inr (by rw [NB,NW,hrm];exact h1))]
  clear hw hb NB NW
  go_enter Tryz.func166,Tryz.ntmps166
  go_wp2_with fail
  go_ret
  exact ⟨none,0,0,rfl,Sl.nil _ _ _,FR.out.out⟩
 subst h1
 obtain ⟨E,hE⟩:∃ x,nw / nb=x:=⟨_,rfl⟩
 have q1:(nw:Int).tdiv (nb:Int)=(E:Int):=by rw [← hE];exact Int.tdiv_eq_ediv_of_nonneg (by omega)
 have q2:(nw:Int) / (nb:Int)=(E:Int):=by rw [← hE];simp
 have hE1:1≤E:=by rw [← hE];exact Nat.div_pos (Nat.le_of_dvd hw1 (Nat.dvd_of_mod_eq_zero hrm)) (by omega)
 have hEn:E≤nw:=by rw [← hE];exact Nat.div_le_self _ _
 have q3:IntKind.i64.wrap (E:Int)=(E:Int):=IntWalk.i64_in _ (by omega)
 have AL:=zH (allR_range (lo:=lo) (hi:=hi) (z:=d.za) (gaps:=decide (0 < d.p)) (show ¬ d.bias.length=0 by rw [NB];exact h0) (show d.w.length % d.bias.length=0 by rw [NW,NB];exact hrm))
 rw [NB,NW,hE] at AL
 have RL:=zH (fun o (ho:o < nb)=>rowL_len (w:=d.w) (nb:=nb) (o:=o) (by rw [NW];exact hrm) ho)
 rw [NW,hE] at RL
 obtain ⟨bw,ow,hA,-,-,-,-⟩:=hw.int_at 0 (by omega)
 subst hA
 have HZ:=zH hz
 have HLO:=zH hlo
 have HHI:=zH hhi
 have cwm:nw≤cw:=hw.cap_le
 have cwm2:cw≤9223372036854775807:=hw.max_le
 clear hw hb NB NW hrm hE hz hlo hhi
 go_enter Tryz.func166,Tryz.ntmps166
 go_wp2_with fail
 clear hw_w1
 go_loopw [8,35] (fun u ii wr=>∃ k:Nat,k≤nb∧ii=.int .i64 k∧Own (tRg .i64) wr (fun _=>False) w1.heap.size 280 u k ((List.range k).map fun o=>rowR (d.bias.getD o 0) lo hi d.za (decide (0 < d.p)) (rowL d.w E o))∧Below w1.heap.size w1 wr) (fun _ ii _=>nb - (intOf ii).toNat)
 case atStart=>exact ⟨0,Nat.zero_le _,rfl,Own.nil _ _ _ _ _,Below.refl _ _⟩
 case round =>
  obtain ⟨k,hk,rfl,hown,hg⟩:=hrel
  replace HB:=zH ((HB.out.fut FR.out.out).fut hg)
  replace HW:=zH ((HW.out.fut FR.out.out).fut hg)
  replace FR:=zH (FR.out.fut hg)
  replace BN:=zH (BN.out.fut hg)
  have ON:=zH hown
  have GG:=zH hg
  clear hg hown n5 n7 n9 n10
  have n5:=BN.out.cell 5
  have n7:=BN.out.cell 7
  have n9:=BN.out.cell 9
  simp only [gX] at n5 n7 n9
  by_cases hlt:k < nb
  ·have p1:(k:Int) < (nb:Int):=by omega
   obtain ⟨bz,oz,rfl,-,-,cx,ix⟩:=HB.out.out.int_at k hlt
   obtain ⟨v1,v2⟩:=RL.out k hlt
   obtain ⟨p,hp⟩:∃ p:Nat,k*E=p:=⟨_,rfl⟩
   have hpi:(k:Int)*(E:Int)=(p:Int):=by rw [← hp];simp
   have hpj:((k:Int)+1)*(E:Int)=(p:Int)+(E:Int):=by rw [Int.add_mul,hpi];simp
   rw [hp] at v2
   have f1:IntKind.i64.wrap ((k:Int)*(E:Int))=(p:Int):=by rw [hpi];exact IntWalk.i64_in _ (by omega)
   have f2:IntKind.i64.wrap ((k:Int)+1)=(k:Int)+1:=IntWalk.i64_in _ (by omega)
   obtain ⟨p2,hp2⟩:∃ x:Nat,p+E=x:=⟨_,rfl⟩
   have f3:IntKind.i64.wrap (((k:Int)+1)*(E:Int))=(p2:Int):=by rw [hpj,← hp2];exact (IntWalk.i64_in _ (by omega)).trans (by simp)
   have s1:p≤p2:=by omega
   have s2:p2≤cw:=by omega
   have s3:p2 - p=E:=by omega
   have s4:¬ cw=p:=by omega
   have ia:InK .i32 (d.bias.getD k 0):=ix
   obtain ⟨x,hx⟩:∃ x,d.bias.getD k 0=x:=⟨_,rfl⟩
   rw [hx] at cx ia
   obtain ⟨g,hg⟩:∃ g,decide (0 < d.p)=g:=⟨_,rfl⟩
   have RW:=zH (fun w' (hs':Sl (tInt .i8) w' (blo w'.heap.size) (some ⟨bw,ow,none⟩) nw cw d.w)=>spanRow_any (some ⟨bw,ow+p,none⟩) E (cw - p) (rowL d.w E k) x lo hi d.za g w' (by unfold rowL;rw [hp];exact hs'.sub p E p (cw - p) (by simp [tInt]) (by omega) (by omega) (by omega)) (by omega) ia HLO.out HHI.out HZ.out)
   have RN:=zH (rowR_all (b:=x) (gaps:=g) (l:=rowL d.w E k) HLO.out HHI.out HZ.out (rowL_in (fun i=>HW.out.out.allK i)) ia)
   have LM:=zH (show (List.range (k+1)).map (fun o=>rowR (d.bias.getD o 0) lo hi d.za (decide (0 < d.p)) (rowL d.w E o))=(List.range k).map (fun o=>rowR (d.bias.getD o 0) lo hi d.za (decide (0 < d.p)) (rowL d.w E o)) ++ [rowR x lo hi d.za g (rowL d.w E k)] by rw [List.range_succ,List.map_append,List.map_singleton,hx,hg])
   obtain ⟨⟨y1,y2⟩,hy⟩:∃ r,rowR x lo hi d.za g (rowL d.w E k)=r:=⟨_,rfl⟩
   rw [hy] at RW RN LM
   simp only at RW RN LM
   have IY:=zH (show InK .i64 y1∧InK .i64 y2 by have:=RN.out;rw [v1] at this;rw [inK_i64,inK_i64];omega)
   clear ix hx hy hpi hpj v1 RN hp2 v2
   go_upto_region 8 with fail
   (try simp only [Act.put])
   have OW:=zH (ON.out.heap (w':=wr.drew) rfl)
   refine wp_region_held_drew (S:=fun w'=>w'.cell? ⟨w.heap.size,5,none⟩=some (.int .i64 d.p)∧w'.cell? ⟨w.heap.size,7,none⟩=some (.int .i8 d.za)∧w'.cell? ⟨w.heap.size,9,none⟩=some (.slice (some ⟨bw,ow,none⟩) nw cw)∧Below w1.heap.size w1 w') (by kernel_rfl) ?_ (fun hS=>?_)
   ·exact ⟨n5,n7,n9,GG.out.drew⟩
   refine kH 0 rfl hS ?_
   try simp only [pX]
   refine kH 1 rfl hS ?_
   try simp only [pX]
   refine kH 2 rfl hS ?_
   try simp only [pX]
   refine kH 3 rfl hS ?_
   try simp only [pX]
   refine kH 4 rfl hS ?_
   try simp only [pX]
   refine kH 5 rfl hS ?_
   try simp only [pX]
   refine kH 6 rfl hS ?_
   try simp only [pX]
   refine kH 7 rfl hS ?_
   try simp only [pX]
   refine kH 8 rfl hS ?_
   try simp only [pX]
   refine kH 9 rfl hS ?_
   try simp only [pX]
   refine kH 10 rfl hS ?_
   try simp only [pX]
   refine kH 11 rfl hS ?_
   try simp only [pX]
   refine kH 12 rfl hS ?_
   try simp only [pX]
   refine kH 13 rfl hS ?_
   try simp only [pX]
   refine kH 14 rfl hS ?_
   try simp only [pX]
   refine kH 15 rfl hS ?_
   try simp only [pX]
   refine kH 16 rfl hS ?_
   try simp only [pX]
   refine kH 17 rfl hS ?_
   try simp only [pX]
   refine wpAnyH_take (i:=18) (v:=.bool g) rfl (by as_aux_lemma=>kernel_rfl) (by as_aux_lemma=>kernel_rfl) (by as_aux_lemma=>kernel_rfl) (fun _ _ _ h=>h) (Or.inl ⟨by rfl,?_⟩) hS ?_
   ·intro w hSw;(try dsimp only at hSw);go_simp;first|done|rw [hg]
   try simp only [pX]
   refine rH 19 rfl (fun K hK=>?_)
   go_simp
   refine (RW.out _ ((HW.out.draw).all)).mono ?_;rintro e wa ⟨rfl,hb⟩;replace OW:=zH (OW.out.below hb (Nat.le_refl _) (fun _ h=>h.elim))
   refine hK.out _ _ ?_ (fun hS=>?_)
   ·exact ⟨(by first|exact cell_later hb hS.1|exact Blk.later hS.1 hb),(by first|exact cell_later hb hS.2.1|exact Blk.later hS.2.1 hb),(by first|exact cell_later hb hS.2.2.1|exact Blk.later hS.2.2.1 hb),below_later hb hS.2.2.2⟩
   clear hK K
   try simp only [pX]
   refine rH 20 rfl (fun K hK=>?_)
   go_simp
   have hb:Below wa.heap.size wa (wa.alloc (.cells #[.int .i64 y1,.int .i64 y2] 280)):=(Below.refl _ _).alloc (Nat.le_refl _) _;have hSa:=hS
   refine hK.out _ _ ?_ (fun hS=>?_)
   ·exact ⟨(by first|exact cell_later hb hS.1|exact Blk.later hS.1 hb),(by first|exact cell_later hb hS.2.1|exact Blk.later hS.2.1 hb),(by first|exact cell_later hb hS.2.2.1|exact Blk.later hS.2.2.1 hb),below_later hb hS.2.2.2⟩
   clear hK K
   try simp only [pX]
   refine rH 21 rfl (fun K hK=>?_)
   (rw [if_pos (by rfl)];refine oper_push (t:=tRg .i64) (.tmp 40) (.tmp 60) rfl ei_range rfl OW.out 1 rfl (y1,y2) (rg_rep IY.out.1 IY.out.2) (by unfold maxLen;omega) (by omega) hSa.2.2.2.size (fun b hb=>hb.elim) ?_;intro v1 w2 own1 g1 at1;have ne:some w.heap.size ≠ u8.ownBlock:=fun e=>absurd (OW.out.lt _ e.symm).1 (Nat.not_le.2 l1);refine hK.out _ _ ⟨cell_grown g1 hSa.1 ne,cell_grown g1 hSa.2.1 ne,cell_grown g1 hSa.2.2.1 ne,hSa.2.2.2.grown g1 hSa.2.2.2.size (fun k h=>(OW.out.lt k h).1)⟩ (fun hS=>?_))
   clear hK K
   try simp only [pX]
   refine kH 22 rfl hS ?_
   try simp only [pX]
   refine wpAnyH_done (by kernel_rfl) ?_ _
   have HG:=zH hS.2.2.2
   clear hS hSa hb n5 n7 n9 g1
   go_wp2_with fail
   exact ⟨⟨k+1,by omega,by go_num,by rw [LM.out];exact own1,HG.out⟩,by simp [intOf];omega⟩
  ·obtain rfl:k=nb:=by omega
   obtain ⟨A2,c2,rfl,sl⟩:=ON.out.sl (S':=bin w.heap.size wr.heap.size) (by show 0 < 2;decide) (fun b h1 h2=>⟨by omega,h2⟩) (fun _ h=>h.elim)
   have SL:=zH sl
   clear sl ON
   go_wp2_with fail
   go_ret
   rw [AL.out]
   exact ⟨A2,_,c2,rfl,SL.out,FR.out.out⟩
def reqR:Value → Option (DataW (Array Value) × List MemPlace):=fun v=>match v with|.agg cs=>some (.held cs,[])|_=>none
theorem reqR_inv {v:Value} {y:DataW (Array Value) × List MemPlace} (h:reqR v=some y):∃ cs,v=.agg cs:=by
 cases v <;> simp [reqR] at h
 exact ⟨_,rfl⟩
theorem reqR_held {v:Value} {cs:Array Value} {ps:List MemPlace} (h:reqR v=some (.held cs,ps)):v=.agg cs:=by
 obtain ⟨c,rfl⟩:=reqR_inv h
 simp [reqR] at h
 rw [h.1]
def nth (i:Nat):Lit:=.int .i64 ((i:Int)+1)
theorem nth_inj {i j:Nat}:nth i=nth j ↔ i=j:=by
 constructor
 ·intro h
  have:=Lit.int.inj h
  omega
 ·rintro rfl;rfl
structure Holds (D:DataW (Array Value)) (vs:List (Array Value)):Prop where
 map:Maps.IsMap D
 size:Maps.size D=vs.length
 at_:∀ i x,vs[i]?=some x → ∀ zd,D.atKey (nth i) zd=.held x
 has:∀ kl,Maps.has D kl=true ↔ ∃ i,i < vs.length∧kl=nth i
theorem Holds.empty:Holds (.map []) []:=⟨Maps.isMap_empty,rfl,by simp,fun kl=>by simp [Maps.has]⟩
theorem Holds.hasF {D:DataW (Array Value)} {vs:List (Array Value)} (h:Holds D vs) {kl:Lit} (hn:∀ i,i < vs.length → kl ≠ nth i):Maps.has D kl=false:=by
 cases hh:Maps.has D kl
 ·rfl
 ·obtain ⟨i,hi,e⟩:=(h.has kl).1 hh
  exact absurd e (hn i hi)
theorem Holds.push {D:DataW (Array Value)} {vs:List (Array Value)} (h:Holds D vs) (ht:Maps.Tidy D) (x:Array Value):Holds (D.put (nth vs.length) (.held x)) (vs ++ [x]):=by
 have hk:WideAt.IsKeyLit (nth vs.length):=trivial
 have hne:Maps.has D (nth vs.length)=false:=h.hasF fun i hi e=>by have:=nth_inj.1 e;omega
 refine ⟨h.map.put _ _,?_,fun i y hi zd=>?_,fun kl=>?_⟩
 ·rw [Maps.size_put ht,hne,h.size]
  simp
 ·rcases Nat.lt_or_ge i vs.length with hlt|hge
  ·rw [List.getElem?_append_left hlt] at hi
   rw [Maps.atKey_put_other (by intro e;have:=nth_inj.1 e;omega)]
   exact h.at_ i y hi zd
  ·have hl:=(List.getElem?_eq_some_iff.1 hi).1
   simp at hl
   obtain rfl:i=vs.length:=by omega
   simp at hi
   rw [Maps.atKey_put_same h.map hk,hi]
 ·by_cases e:kl=nth vs.length
  ·subst e
   rw [Maps.has_put_same h.map hk]
   exact ⟨fun _=>⟨vs.length,by simp,rfl⟩,fun _=>rfl⟩
  ·rw [Maps.has_put_other e,h.has kl]
   constructor
   ·rintro ⟨i,hi,rfl⟩;exact ⟨i,by simp;omega,rfl⟩
   ·rintro ⟨i,hi,rfl⟩
    simp at hi
    refine ⟨i,?_,rfl⟩
    have:i ≠ vs.length:=fun e2=>e (by rw [e2])
    omega
theorem Holds.set {D:DataW (Array Value)} {vs:List (Array Value)} (h:Holds D vs) (ht:Maps.Tidy D) (j:Nat) (hj:j < vs.length) (x:Array Value):Holds (D.put (nth j) (.held x)) (vs.set j x):=by
 have hk:WideAt.IsKeyLit (nth j):=trivial
 have hy:Maps.has D (nth j)=true:=(h.has _).2 ⟨j,hj,rfl⟩
 refine ⟨h.map.put _ _,?_,fun i y hi zd=>?_,fun kl=>?_⟩
 ·have e:=Maps.size_put (k:=nth j) ht (.held x)
  rw [hy,h.size] at e
  simp only [List.length_set]
  simpa using e
 ·rw [List.getElem?_set] at hi
  by_cases e:j=i
  ·subst e
   rw [if_pos rfl] at hi
   rw [if_pos hj] at hi
   rw [Maps.atKey_put_same h.map hk]
   rw [Option.some.inj hi]
  ·rw [if_neg e] at hi
   rw [Maps.atKey_put_other (by intro e2;have:=nth_inj.1 e2;omega)]
   exact h.at_ i y hi zd
 ·by_cases e:kl=nth j
  ·subst e
   rw [Maps.has_put_same h.map hk]
   exact ⟨fun _=>⟨j,by simpa using hj,rfl⟩,fun _=>rfl⟩
  ·rw [Maps.has_put_other e,h.has kl,List.length_set]
theorem keyed:Maps.Keyed Tryz.prog 3:=Maps.int_keyed Tryz.underlying3
end Go.Proofs.YtppcjcigekoipaaGreat
