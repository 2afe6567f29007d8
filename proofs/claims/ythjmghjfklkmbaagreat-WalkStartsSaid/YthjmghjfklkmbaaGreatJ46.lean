/-
  An input's beginning (layer 36): walk.fits, Net.Start.
-/
import Derived.Test.YthjmghjfklkmbaaGreatJ41
set_option linter.unusedVariables false
set_option linter.unusedSimpArgs false
namespace Go.Proofs.YthjmghjfklkmbaaGreat
open Go.RowKit Go.ChangeShapes Go.WideShapes
set_option maxRecDepth 100000
set_option maxHeartbeats 4000000
theorem ok_of {t:Tensor} {n:Nat} (h:t.data.length=n):decide (0 < elems t.h t.v t.c∧elems t.h t.v t.c=n)=t.ok:=by rw [← h];rfl
def fitsV (t:Tensor) (s:Sh3):Bool:=t.ok && ([t.h,t.v,t.c] == [s.1,s.2.1,s.2.2])
theorem fits_any (t:Tensor) (s:Sh3) (A:Option Addr) (n cap:Nat) (w:World) (ht:TensorIn t) (ha:Sl (tInt .i8) w (blo w.heap.size) A n cap t.data) :
  Calls Tryz.prog 25 #[.agg (tN t.h t.v t.c A n cap),.agg (sN s.1 s.2.1 s.2.2)] w fun e w'=>e=.returned (.bool (fitsV t s))∧Below w.heap.size w w':=by
 obtain ⟨s1,s2,s3⟩:=s
 have RA:=zH (fun w=>tensorRight_any t.h t.v t.c A n cap w ht.h ht.v ht.c (Nat.le_trans ha.cap_le ha.max_le))
 have TO:=zH (ok_of ha.n_eq)
 rw [TO.out] at RA
 have HV:=zH (show fitsV t (s1,s2,s3)=(t.ok && ([t.h,t.v,t.c] == [s1,s2,s3])) from rfl)
 obtain ⟨r,hr⟩:∃ r,fitsV t (s1,s2,s3)=r:=⟨_,rfl⟩
 obtain ⟨h0,hh⟩:∃ x,t.h=x:=⟨_,rfl⟩
 obtain ⟨v0,hv⟩:∃ x,t.v=x:=⟨_,rfl⟩
 obtain ⟨c0,hc⟩:∃ x,t.c=x:=⟨_,rfl⟩
 obtain ⟨ok,ho⟩:∃ x,t.ok=x:=⟨_,rfl⟩
 rw [hr,hh,hv,hc,ho] at HV
 simp only [hh,hv,hc,ho] at RA
 rw [hr,hh,hv,hc]
 have EQ:=zH (fun w=>run_eql_st3 (P:=Tryz.prog) (t:=23) (k0:=.i64) (k1:=.i64) (k2:=.i64) w Tryz.underlying23 (by kernel_rfl) (by decide) ⟨rfl,rfl,rfl⟩ Tryz.underlying3 Tryz.underlying3 Tryz.underlying3 (by kernel_rfl) (by kernel_rfl) (by kernel_rfl) h0 v0 c0 s1 s2 s3)
 obtain ⟨q,hq⟩:∃ q,([h0,v0,c0] == [s1,s2,s3])=q:=⟨_,rfl⟩
 simp only [hq] at EQ HV
 clear ht ha TO hr hh hv hc ho hq
 have H:=zH (Far.refl w)
 obtain ⟨w1,hw_w1,B1,k1⟩:=nB w (tN h0 v0 c0 A n cap) 29
 replace H:=zN k1 H B1
 clear B1 k1
 obtain ⟨w2,hw_w2,B2,k2⟩:=nB w1 (sN s1 s2 s3) 23
 replace H:=zN k2 H B2
 clear B2 k2
 go_enter Tryz.func25,Tryz.ntmps25
 go_wp2_with (refine lB 29 (.tmp 2) w.heap.size H.out.1.2 Tryz.underlying29 ?_)
 refine (RA.out _).mono ?_
 rintro e w3 ⟨rfl,hb⟩
 replace H:=zF hb H
 clear hb RA hw_w1 hw_w2
 cases ok with
 | false =>
  go_wp2_with fail
  go_ret
  exact ⟨by rw [HV.out] <;> rfl,H.out.1.1.out⟩
 | true =>
  go_wp2_with (first
   | (refine wpList_load_midw (by kernel_rfl) 23 (.tmp 8) rfl w.heap.size 0 rfl [.int .i64 h0,.int .i64 v0,.int .i64 c0] _ (range_blk H.out.1.2 rfl) Tryz.underlying23 rfl (by kernel_rfl) ?_)
   | (refine wpList_load_midw (by kernel_rfl) 23 (.tmp 3) rfl w1.heap.size 0 rfl [.int .i64 s1,.int .i64 s2,.int .i64 s3] _ (range_blk H.out.2 rfl) Tryz.underlying23 rfl (by kernel_rfl) ?_)
   | (refine wpList_eql_agg 23 _ (.tmp 9) (.tmp 10) rfl _ _ rfl rfl (by rfl) (by kernel_rfl) _ (EQ.out _) ?_))
  go_ret
  exact ⟨by rw [HV.out] <;> rfl,H.out.1.1.out⟩
abbrev pZ:Array Value:=#[.int .i64 0,.int .i64 0,.int .i64 0,.int .i64 0,.int .i64 0,.int .i64 0,.slice none 0 0,.int .i64 0,.int .i64 0,.int .i64 0,.slice none 0 0]
theorem start_nil (t:Tensor) (A:Option Addr) (n cap:Nat) (w:World) :
  Calls Tryz.prog 9 #[.pointer none,.agg (tN t.h t.v t.c A n cap)] w fun e w'=>e=.returned (.tuple #[.agg (ptCells noPoint none 0 0 none 0 0),.int .i64 1])∧Below w.heap.size w w':=by
 unfold ptCells
 have H:=zH (Far.refl w)
 obtain ⟨w1,hw_w1,B1,k1⟩:=nB w (tN t.h t.v t.c A n cap) 29
 replace H:=zN k1 H B1
 clear B1 k1
 obtain ⟨w2,hw_w2,B2,k2⟩:=nB w1 pZ 42
 replace H:=zN k2 H B2
 clear B2 k2
 have l1:w.heap.size < w1.heap.size:=by rw [← hw_w1];simp
 go_enter Tryz.func9,Tryz.ntmps9
 go_wp2_with (refine sB 42 (.tmp 4) (.tmp 12) w1.heap.size pZ H.out.2 ?_;intro w9 b9 g9;have F9:=zA g9 (zH H.out.1.1);clear g9)
 refine rC b9 Tryz.underlying42 ?_
 exact ⟨rfl,F9.out.out⟩
def RetPt (p:Pt) (code:Int) (w:World) (e:Ending) (w':World):Prop :=
 ∃ A n c B m d,e=.returned (.tuple #[.agg (ptCells p A n c B m d),.int .i64 code])∧Sl (tInt .i8) w' (bin w.heap.size w'.heap.size) A n c p.input.data∧Sl (tInt .i8) w' (bin w.heap.size w'.heap.size) B m d p.value.data∧Below w.heap.size w w'
theorem start_any (t:Tensor) (g:Nat) (h v c:Int) (l0 x4 x5 x6:Value) (A:Option Addr) (n cap:Nat) (w:World) (hb:Blk w g 84 #[.int .i64 h,.int .i64 v,.int .i64 c,l0,x4,x5,x6]) (ht:TensorIn t) (ha:Sl (tInt .i8) w (blo w.heap.size) A n cap t.data) (hn:n≤300) :
  Calls Tryz.prog 9 #[.pointer (some ⟨g,0,none⟩),.agg (tN t.h t.v t.c A n cap)] w (RetPt (if fitsV t (h,v,c)=true then ⟨0,0,0,t,t⟩ else noPoint) (if fitsV t (h,v,c)=true then 0 else 5) w):=by
 have FI:=zH (fun w ha=>fits_any t (h,v,c) A n cap w ht ha)
 have TO:=zH (fun w hok ha=>tensorOf_any t A n cap w hok ha (by omega))
 have HA:=zH (Old.now ha)
 have OK:=zH (show fitsV t (h,v,c)=true → t.ok=true from fun h=>by unfold fitsV at h;simp only [Bool.and_eq_true] at h;exact h.1)
 obtain ⟨r,hr⟩:∃ r,fitsV t (h,v,c)=r:=⟨_,rfl⟩
 simp only [hr] at FI OK ⊢
 unfold RetT at TO
 unfold RetPt ptCells
 have BN:=zH hb
 have H:=zH (Far.refl w)
 obtain ⟨w1,hw_w1,B1,k1⟩:=nB w (tN t.h t.v t.c A n cap) 29
 replace H:=zN k1 H B1
 replace BN:=zF k1 BN
 clear B1 k1
 obtain ⟨w2,hw_w2,B2,k2⟩:=nB w1 pZ 42
 replace H:=zN k2 H B2
 replace BN:=zF k2 BN
 clear B2 k2 ht ha hb hr
 have l1:w.heap.size < w1.heap.size:=by rw [← hw_w1];simp
 go_enter Tryz.func9,Tryz.ntmps9
 go_upto_region 3 with fail
 clear hw_w1 hw_w2
 have R0:=zH (fun z:Ext w2=>range_blk (off:=0) (vs:=[.int .i64 t.h,.int .i64 t.v,.int .i64 t.c,.slice A n cap]) (H.out.1.2.ext z) rfl)
 have R1:=zH (fun z:Ext w2=>range_blk (off:=0) (vs:=[.int .i64 h,.int .i64 v,.int .i64 c]) (BN.out.ext z) rfl)
 have E1:=zH (fun z:Ext w2=>calls_ext z (FI.out z.1 ((HA.out.fut H.out.1.1.out).fut z.2).all))
 refine wp_region_ext w2 (by kernel_rfl) (by kernel_rfl) (Below.refl _ _) ?_
 refine wpQuiet_load_mid (by kernel_rfl) 29 (.tmp 3) rfl w.heap.size 0 rfl _ _ (by rintro _ ⟨z,rfl⟩;exact R0.out z) Tryz.underlying29 rfl (by kernel_rfl) ?_
 simp only [pX]
 repeat (go_big_quiet_step (fail))
 refine wpQuiet_load_mid (by kernel_rfl) 23 (.tmp 18) rfl g 0 rfl _ _ (by rintro _ ⟨z,rfl⟩;exact R1.out z) Tryz.underlying23 rfl (by kernel_rfl) ?_
 simp only [pX]
 repeat (go_big_quiet_step ((with_reducible exact E1.out _)))
 refine wpQuiet_nil ?_
 rintro wa ⟨⟨_,hb⟩,rfl⟩
 have l2:=H.out.2.lt
 have FW:=zH H.out.1.1
 replace H:=zF hb H
 have K:=zH (Far.mk hb)
 clear hb R0 R1 E1 BN
 cases r with
 | false =>
  go_wp2_with (refine sB 42 (.tmp 4) (.tmp 22) w1.heap.size pZ H.out.2 ?_;intro w9 b9 g9;have F9:=zA g9 (zH H.out.1.1);clear g9)
  refine rC b9 Tryz.underlying42 ?_
  exact ⟨none,0,0,none,0,0,rfl,Sl.nil _ _ _,Sl.nil _ _ _,F9.out.out⟩
 | true =>
  have SH:=zH (range_blk (off:=0) (vs:=[.int .i64 t.h,.int .i64 t.v,.int .i64 t.c]) H.out.1.2 rfl)
  have cA:=fun i=>H.out.1.2.cell i
  go_wp2_with (refine lM 23 (.tmp 24) SH.out Tryz.underlying23 ?_)
  refine (TO.out _ (OK.out (by trivial)) (HA.out.fut H.out.1.1.out).all).mono ?_
  rintro e w4 ⟨A4,n4,c4,rfl,q4,hb⟩
  have N4:=zH (New.of q4 K.out)
  replace H:=zN hb H N4
  replace K:=zF hb K
  clear hb q4 N4 cA SH
  have SH:=zH (range_blk (off:=0) (vs:=[.int .i64 t.h,.int .i64 t.v,.int .i64 t.c]) H.out.1.1.2 rfl)
  have cA:=fun i=>H.out.1.1.2.cell i
  go_wp2_with (first
   | (refine sF 29 (.tmp 6) (.tmp 29) (tN t.h t.v t.c A4 n4 c4) ?_;intro w5 b5 k5;replace H:=zN k5 H b5;replace K:=zF k5 K;replace SH:=zF k5 SH;clear b5 cA;have cA:=fun i=>H.out.1.1.1.2.cell i)
   | (refine lM 23 (.tmp 32) SH.out Tryz.underlying23 ?_))
  refine (TO.out _ (OK.out (by trivial)) (HA.out.fut H.out.1.1.1.1.out).all).mono ?_
  rintro e w6 ⟨A6,n6,c6,rfl,q6,hb⟩
  have N6:=zH (New.of q6 K.out)
  replace H:=zN hb H N6
  clear hb q6 N6 cA SH
  have z5:=H.out.1.2.lt
  go_wp2_with (first
   | (refine sF 29 (.tmp 8) (.tmp 37) (tN t.h t.v t.c A6 n6 c6) ?_;intro w7 b7 k7;replace H:=zN k7 H b7;clear b7)
   | (refine lB 29 (.tmp 6) w4.heap.size H.out.1.1.2 Tryz.underlying29 ?_)
   | (refine lB 29 (.tmp 8) w6.heap.size H.out.2 Tryz.underlying29 ?_)
   | (refine sB 42 (.tmp 4) (.tmp 41) w1.heap.size #[.int .i64 0,.int .i64 0,.int .i64 0,.int .i64 t.h,.int .i64 t.v,.int .i64 t.c,.slice A4 n4 c4,.int .i64 t.h,.int .i64 t.v,.int .i64 t.c,.slice A6 n6 c6] H.out.1.1.1.1.2 ?_;intro w9 b9 g9;have F9:=zA g9 (zH (And.intro H.out.1.1.1.1.1.1 (And.intro H.out.1.1.1.2 H.out.1.2)))))
  refine rC b9 Tryz.underlying42 ?_
  exact ⟨A4,n4,c4,A6,n6,c6,rfl,F9.out.2.1.since FW.out,F9.out.2.2.since FW.out,F9.out.1.out⟩
end Go.Proofs.YthjmghjfklkmbaaGreat
