/-
  Between which numbers lies what a node makes (layer 32): the document's Node.
-/
import Derived.Test.YtppcjcigekoipaaGreatJ29
import Derived.Test.YtppcjcigekoipaaGreatJ31
set_option linter.unusedVariables false
set_option linter.unusedSimpArgs false
namespace Go.Proofs.YtppcjcigekoipaaGreat
open Go.RowKit Go.ChangeShapes Go.WideShapes
set_option maxRecDepth 100000
set_option maxHeartbeats 8000000
theorem sumsK_cases {k:Int} (h:sumsK k=true):k=1 ∨ k=2 ∨ k=3:=by unfold sumsK at h;simpa using h
theorem rguardNode_any (d:Node) (W:Option Addr) (nw cw:Nat) (B:Option Addr) (nb cb:Nat) (al ah bl bh:Int) (w:World) (hw:Sl (tInt .i8) w (blo w.heap.size) W nw cw d.w) (hb:Sl (tInt .i32) w (blo w.heap.size) B nb cb d.bias) (hd:NodeIn d)
  (hal:InK .i8 al) (hah:InK .i8 ah) (hbl:InK .i8 bl) (hbh:InK .i8 bh) (mw:nw≤16384) (mb:nb≤16384) (hw1:sumsK d.kind=true → 1≤nw) :
  Calls Tryz.prog 73 #[.agg (nN d.kind d.a d.b d.k d.s d.p d.out d.za d.zb W nw cw B nb cb d.qm d.qs d.qz d.rm d.rs d.rz d.lo d.hi),.agg #[.int .i8 al,.int .i8 ah],.agg #[.int .i8 bl,.int .i8 bh]] w (RetR (nodeR d (al,ah) (bl,bh)) w):=by
 have CK:=zH (fun w hw hb=>rcheck_any d W nw cw B nb cb w hw hb (by omega) (by omega))
 have J1:=zH (fun hm w=>rjoinOne_any al bl d W nw cw B nb cb w hal hbl hd hm)
 have J2:=zH (fun hm w=>rjoinOne_any ah bh d W nw cw B nb cb w hah hbh hd hm)
 have MY:=zH (check_may (d:=d))
 have A1:=zH (fun w=>ractOne_any al d W nw cw B nb cb w hal hd)
 have A2:=zH (fun w=>ractOne_any ah d W nw cw B nb cb w hah hd)
 have AF:=zH (fun a b w=>rspanAfter_any a b d.qm d.qs d.qz d.lo d.hi w hd.qm hd.qz hd.lo hd.hi)
 have SH:=zH (fun w=>rshared_any W nw cw B nb cb w (by unfold maxLen;omega) (by unfold maxLen;omega))
 have RR:=zH (fun w hw hb h1 h0 hr=>rrows_any W nw cw d.w B nb cb d.bias al ah d.za (decide (0 < d.p)) w hw hb hd.za hal hah mw mb h1 h0 hr)
 have BD:=zH (fun h=>allR_bad (w:=d.w) (bias:=d.bias) (lo:=al) (hi:=ah) (z:=d.za) (gaps:=decide (0 < d.p)) h)
 rw [hb.n_eq,hw.n_eq] at BD
 have HB:=zH (Old.now hb)
 have HW:=zH (Old.now hw)
 have H1:=zH hw1
 have FR:=zH (Far.refl w)
 obtain ⟨r,hr⟩:∃ r,nodeR d (al,ah) (bl,bh)=r:=⟨_,rfl⟩
 rw [hr]
 unfold nodeR at hr
 obtain ⟨ck,hck⟩:∃ c,checkV d=c:=⟨_,rfl⟩
 rw [hck] at CK hr MY
 have VV:=zH hr.symm
 try simp only at VV
 clear hw hb hd hal hah hbl hbh hw1 hr hck
 obtain ⟨w1,hw_w1,BN,k_w1⟩:=nB w (nN d.kind d.a d.b d.k d.s d.p d.out d.za d.zb W nw cw B nb cb d.qm d.qs d.qz d.rm d.rs d.rz d.lo d.hi) 87
 replace FR:=zH (FR.out.fut k_w1)
 clear k_w1
 obtain ⟨w2,hw_w2,BA,k_w2⟩:=nB w1 #[.int .i8 al,.int .i8 ah] 131
 replace FR:=zH (FR.out.fut k_w2)
 replace BN:=zH (BN.out.fut k_w2)
 clear k_w2
 obtain ⟨w3,hw_w3,BB,k_w3⟩:=nB w2 #[.int .i8 bl,.int .i8 bh] 131
 replace FR:=zH (FR.out.fut k_w3)
 replace BN:=zH (BN.out.fut k_w3)
 replace BA:=zH (BA.out.fut k_w3)
 clear k_w3
 obtain ⟨w4,hw_w4,BR,k_w4⟩:=nB w3 #[.int .i8 0,.int .i8 0] 131
 replace FR:=zH (FR.out.fut k_w4)
 replace BN:=zH (BN.out.fut k_w4)
 replace BA:=zH (BA.out.fut k_w4)
 replace BB:=zH (BB.out.fut k_w4)
 clear k_w4
 have l1:w.heap.size < w1.heap.size:=by rw [← hw_w1];simp
 have l2:w1.heap.size < w2.heap.size:=by rw [← hw_w2];simp
 have l3:w2.heap.size < w3.heap.size:=by rw [← hw_w3];simp
 have l4:w3.heap.size < w4.heap.size:=by rw [← hw_w4];simp
 go_enter Tryz.func73,Tryz.ntmps73
 go_wp2_with (refine lB 87 (.tmp 3) w.heap.size BN.out Tryz.underlying87 ?_)
 clear hw_w1 hw_w2 hw_w3 hw_w4
 refine (CK.out _ (HW.out.fut FR.out.out).all (HB.out.fut FR.out.out).all).mono ?_
 rintro e w5 ⟨rfl,hb⟩
 replace FR:=zH (FR.out.fut hb);replace BN:=zH (BN.out.fut hb);replace BA:=zH (BA.out.fut hb);replace BB:=zH (BB.out.fut hb);replace BR:=zH (BR.out.fut hb);clear hb
 by_cases c1:ck=0
 rotate_left
 ·have t1:(ck != 0)=true:=by simpa using c1
  rw [if_pos c1] at VV
  clear c1
  go_wp2_with (refine sB 131 (.tmp 6) (.tmp 18) w3.heap.size #[.int .i8 0,.int .i8 0] BR.out ?_;intro w9 B9 g9)
  refine rC B9 Tryz.underlying131 ?_
  exact ⟨by rw [VV.out] <;> rfl,(FR.out.away g9 (by omega)).out⟩
 subst c1
 have t1:((0:Int) != 0)=false:=rfl
 rw [if_neg (by decide)] at VV
 have k0:=BN.out.cell 0;have k5:=BN.out.cell 5;have k7:=BN.out.cell 7;have k9:=BN.out.cell 9;have k10:=BN.out.cell 10;have k13:=BN.out.cell 13;have k17:=BN.out.cell 17;have k18:=BN.out.cell 18;have a0:=BA.out.cell 0;have a1:=BA.out.cell 1;have b0:=BB.out.cell 0;have b1:=BB.out.cell 1;simp only [gX] at k0 k5 k7 k9 k10 k13 k17 k18
 by_cases c2:ah < al
 ·have t2:decide (ah < al)=true:=by simpa using c2
  rw [if_pos (.inl c2)] at VV
  clear c2
  go_upto_region 5 with fail
  clear k0 k5 k7 k9 k10 k13 k17 k18 a0 a1 b0 b1
  go_wp2_with (refine sB 131 (.tmp 6) (.tmp 37) w3.heap.size #[.int .i8 0,.int .i8 0] BR.out ?_;intro w9 B9 g9)
  refine rC B9 Tryz.underlying131 ?_
  exact ⟨by rw [VV.out] <;> rfl,(FR.out.away g9 (by omega)).out⟩
 have t2:decide (ah < al)=false:=by simpa using c2
 have ge:=Int.not_lt.1 c2
 by_cases c6:d.kind=6
 ·have t6:(d.kind == 6)=true:=by simp [c6]
  have s1:(d.kind == 1)=false:=by simp [c6]
  have s2:(d.kind == 2)=false:=by simp [c6]
  have s3:(d.kind == 3)=false:=by simp [c6]
  by_cases c3:bh < bl
  ·have t3:decide (bh < bl)=true:=by simpa using c3
   rw [if_pos (.inr ⟨c6,c3⟩)] at VV
   clear c2 c3 ge c6
   go_upto_region 5 with fail
   clear k0 k5 k7 k9 k10 k13 k17 k18 a0 a1 b0 b1
   go_wp2_with (refine sB 131 (.tmp 6) (.tmp 37) w3.heap.size #[.int .i8 0,.int .i8 0] BR.out ?_;intro w9 B9 g9)
   refine rC B9 Tryz.underlying131 ?_
   exact ⟨by rw [VV.out] <;> rfl,(FR.out.away g9 (by omega)).out⟩
  have t3:decide (bh < bl)=false:=by simpa using c3
  have MM:=zH (MY.out rfl c6)
  have sk:sumsK d.kind=false:=by rw [c6];rfl
  rw [if_neg (show ¬ (ah < al ∨ (d.kind=6∧bh < bl)) by omega)] at VV
  rw [sk,if_neg (by decide),if_pos c6] at VV
  replace J1:=zH (J1.out MM.out)
  replace J2:=zH (J2.out MM.out)
  obtain ⟨y1,hy1⟩:∃ y,joinV d al bl=y:=⟨_,rfl⟩
  obtain ⟨y2,hy2⟩:∃ y,joinV d ah bh=y:=⟨_,rfl⟩
  rw [hy1] at J1 VV
  rw [hy2] at J2 VV
  clear c2 c3 ge hy1 hy2 sk c6
  go_wp2_with fail
  clear k0 k5 k7 k9 k10 k13 k17 k18 a0 a1 b0 b1
  refine wp_region_T (fun w'=>w'.cell? ⟨w1.heap.size,0,none⟩=some (.int .i8 al)∧w'.cell? ⟨w2.heap.size,0,none⟩=some (.int .i8 bl)∧w'.cell? ⟨w1.heap.size,1,none⟩=some (.int .i8 ah)∧w'.cell? ⟨w2.heap.size,1,none⟩=some (.int .i8 bh)∧Blk w' w.heap.size 87 (nN d.kind d.a d.b d.k d.s d.p d.out d.za d.zb W nw cw B nb cb d.qm d.qs d.qz d.rm d.rs d.rz d.lo d.hi)∧Below w5.heap.size w5 w') 13 (by kernel_rfl) ?_ (fun hS=>?_)
  ·exact ⟨BA.out.drew.cell 0,BB.out.drew.cell 0,BA.out.drew.cell 1,BB.out.drew.cell 1,BN.out.drew,(Below.refl _ _).drew⟩
  refine kT 0 rfl hS ?_
  try simp only [pX]
  refine kT 1 rfl hS ?_
  try simp only [pX]
  refine kT 2 rfl hS ?_
  try simp only [pX]
  refine kT 3 rfl hS ?_
  try simp only [pX]
  refine tkT 4 rfl (yB 87 (.tmp 3) w.heap.size (fun w hs=>hs.2.2.2.2.1) Tryz.underlying87) hS ?_
  try simp only [pX]
  refine kT 6 rfl hS ?_
  try simp only [pX]
  refine kT 7 rfl hS ?_
  try simp only [pX]
  refine kT 8 rfl hS ?_
  try simp only [pX]
  refine kT 9 rfl hS ?_
  try simp only [pX]
  refine tkT 10 rfl (yB 87 (.tmp 3) w.heap.size (fun w hs=>hs.2.2.2.2.1) Tryz.underlying87) hS ?_
  try simp only [pX]
  refine wpAnyT_one (i:=5) (by kernel_rfl) rfl rfl (fun K hK=>?_)
  go_simp
  with_reducible refine (J1.out _).mono ?_;rintro e wm ⟨rfl,hb⟩
  refine hK.out _ _ ?_ (fun hS=>?_)
  ·exact ⟨(by first|exact cell_later hb hS.1|exact Blk.later hS.1 hb),(by first|exact cell_later hb hS.2.1|exact Blk.later hS.2.1 hb),(by first|exact cell_later hb hS.2.2.1|exact Blk.later hS.2.2.1 hb),(by first|exact cell_later hb hS.2.2.2.1|exact Blk.later hS.2.2.2.1 hb),(by first|exact cell_later hb hS.2.2.2.2.1|exact Blk.later hS.2.2.2.2.1 hb),(by first|exact below_later hb hS.2.2.2.2.2|exact grown_below hS.2.2.2.2.2 hb)⟩
  clear hK K
  try simp only [pX]
  refine wpAnyT_one (i:=11) (by kernel_rfl) rfl rfl (fun K hK=>?_)
  go_simp
  with_reducible refine (J2.out _).mono ?_;rintro e wm ⟨rfl,hb⟩
  refine hK.out _ _ ?_ (fun hS=>?_)
  ·exact ⟨(by first|exact cell_later hb hS.1|exact Blk.later hS.1 hb),(by first|exact cell_later hb hS.2.1|exact Blk.later hS.2.1 hb),(by first|exact cell_later hb hS.2.2.1|exact Blk.later hS.2.2.1 hb),(by first|exact cell_later hb hS.2.2.2.1|exact Blk.later hS.2.2.2.1 hb),(by first|exact cell_later hb hS.2.2.2.2.1|exact Blk.later hS.2.2.2.2.1 hb),(by first|exact below_later hb hS.2.2.2.2.2|exact grown_below hS.2.2.2.2.2 hb)⟩
  clear hK K
  try simp only [pX]
  refine kT 12 rfl hS ?_
  try simp only [pX]
  refine wpAnyT_tail _ _ rfl rfl (by kernel_rfl) ?_
  have kd:=hS.2.2.2.2.2
  replace FR:=zH (FR.out.fut kd)
  replace BR:=zH (BR.out.fut kd)
  clear hS kd hb
  go_wp2_with (refine sB 131 (.tmp 6) (.tmp 107) w3.heap.size #[.int .i8 y1,.int .i8 y2] BR.out ?_;intro w9 B9 g9)
  refine rC B9 Tryz.underlying131 ?_
  exact ⟨by rw [VV.out] <;> rfl,(FR.out.away g9 (by omega)).out⟩
 have t6:(d.kind == 6)=false:=by simp [c6]
 rw [if_neg (show ¬ (ah < al ∨ (d.kind=6∧bh < bl)) by omega)] at VV
 obtain ⟨sk,hsk⟩:∃ b,sumsK d.kind=b:=⟨_,rfl⟩
 have KC:=zH (fun h:sk=true=>sumsK_cases (hsk.trans h))
 rw [hsk] at VV H1
 cases sk with
 | true =>
  rw [if_pos rfl] at VV
  try simp only at VV
  have h1:=H1.out rfl
  have h123:=KC.out rfl
  unfold sumsR at VV
  obtain ⟨L,hL⟩:∃ L,allR d.w d.bias al ah d.za (decide (0 < d.p))=L:=⟨_,rfl⟩
  rw [hL] at VV RR BD
  obtain ⟨g,hg⟩:∃ g,decide (0 < d.p)=g:=⟨_,rfl⟩
  rw [hg] at RR
  by_cases hsh:nb=0 ∨ ¬ nw % nb=0
  ·have SV:=zH (show (decide (0 < nb) && decide (nw % nb=0))=false by rcases hsh with h|h;rw [h];rfl;rw [decide_eq_false h,Bool.and_false])
   obtain rfl:=BD.out hsh
   rw [SV.out] at SH
   have AQ:=zH (AF.out 0 0)
   rw [show holdsR []=true from rfl,if_pos rfl,show bothR []=(0,0) from rfl] at VV
   obtain ⟨⟨y1,y2⟩,hy⟩:∃ y,afterR (0,0) d.qm d.qs d.qz d.lo d.hi=y:=⟨_,rfl⟩
   rw [hy] at AQ VV
   clear hy hL hsh c2 ge AF RR BD hg hsk
   rcases h123 with h|h|h
   ·have s1:(d.kind == 1)=true:=by rw [h];rfl
    have s2:(d.kind == 2)=false:=by rw [h];rfl
    have s3:(d.kind == 3)=false:=by rw [h];rfl
    clear h
    go_wp2_with (first|(go_at_call 74;refine (SH.out _).mono ?_;rintro e w6 ⟨rfl,hb⟩;replace FR:=zH (FR.out.fut hb);replace BN:=zH (BN.out.fut hb);replace BA:=zH (BA.out.fut hb);replace BB:=zH (BB.out.fut hb);replace BR:=zH (BR.out.fut hb);clear hb;clear k0 k5 k7 k9 k10 k13 k17 k18 a0 a1 b0 b1;have k0:=BN.out.cell 0;have k5:=BN.out.cell 5;have k7:=BN.out.cell 7;have k9:=BN.out.cell 9;have k10:=BN.out.cell 10;have k13:=BN.out.cell 13;have k17:=BN.out.cell 17;have k18:=BN.out.cell 18;have a0:=BA.out.cell 0;have a1:=BA.out.cell 1;have b0:=BB.out.cell 0;have b1:=BB.out.cell 1;simp only [gX] at k0 k5 k7 k9 k10 k13 k17 k18)|(refine wpList_load_mid rfl 85 (.tmp 80) rfl w.heap.size 11 rfl _ _ (range_blk (off:=11) (vs:=[.int .i32 d.qm,.int .i64 d.qs,.int .i8 d.qz]) BN.out rfl) Tryz.underlying85 rfl (by kernel_rfl) ?_)|(go_at_call 109;refine (AQ.out _).mono ?_;rintro e w7 ⟨rfl,hb⟩;replace FR:=zH (FR.out.fut hb);replace BN:=zH (BN.out.fut hb);replace BA:=zH (BA.out.fut hb);replace BB:=zH (BB.out.fut hb);replace BR:=zH (BR.out.fut hb);clear hb)|(refine sB 131 (.tmp 6) (.tmp 91) w3.heap.size #[.int .i8 y1,.int .i8 y2] BR.out ?_;intro w9 B9 g9))
    refine rC B9 Tryz.underlying131 ?_
    exact ⟨by rw [VV.out] <;> rfl,(FR.out.away g9 (by omega)).out⟩
   ·have s1:(d.kind == 1)=false:=by rw [h];rfl
    have s2:(d.kind == 2)=true:=by rw [h];rfl
    have s3:(d.kind == 3)=false:=by rw [h];rfl
    clear h
    go_wp2_with (first|(go_at_call 74;refine (SH.out _).mono ?_;rintro e w6 ⟨rfl,hb⟩;replace FR:=zH (FR.out.fut hb);replace BN:=zH (BN.out.fut hb);replace BA:=zH (BA.out.fut hb);replace BB:=zH (BB.out.fut hb);replace BR:=zH (BR.out.fut hb);clear hb;clear k0 k5 k7 k9 k10 k13 k17 k18 a0 a1 b0 b1;have k0:=BN.out.cell 0;have k5:=BN.out.cell 5;have k7:=BN.out.cell 7;have k9:=BN.out.cell 9;have k10:=BN.out.cell 10;have k13:=BN.out.cell 13;have k17:=BN.out.cell 17;have k18:=BN.out.cell 18;have a0:=BA.out.cell 0;have a1:=BA.out.cell 1;have b0:=BB.out.cell 0;have b1:=BB.out.cell 1;simp only [gX] at k0 k5 k7 k9 k10 k13 k17 k18)|(refine wpList_load_mid rfl 85 (.tmp 80) rfl w.heap.size 11 rfl _ _ (range_blk (off:=11) (vs:=[.int .i32 d.qm,.int .i64 d.qs,.int .i8 d.qz]) BN.out rfl) Tryz.underlying85 rfl (by kernel_rfl) ?_)|(go_at_call 109;refine (AQ.out _).mono ?_;rintro e w7 ⟨rfl,hb⟩;replace FR:=zH (FR.out.fut hb);replace BN:=zH (BN.out.fut hb);replace BA:=zH (BA.out.fut hb);replace BB:=zH (BB.out.fut hb);replace BR:=zH (BR.out.fut hb);clear hb)|(refine sB 131 (.tmp 6) (.tmp 91) w3.heap.size #[.int .i8 y1,.int .i8 y2] BR.out ?_;intro w9 B9 g9))
    refine rC B9 Tryz.underlying131 ?_
    exact ⟨by rw [VV.out] <;> rfl,(FR.out.away g9 (by omega)).out⟩
   ·have s1:(d.kind == 1)=false:=by rw [h];rfl
    have s2:(d.kind == 2)=false:=by rw [h];rfl
    have s3:(d.kind == 3)=true:=by rw [h];rfl
    clear h
    go_wp2_with (first|(go_at_call 74;refine (SH.out _).mono ?_;rintro e w6 ⟨rfl,hb⟩;replace FR:=zH (FR.out.fut hb);replace BN:=zH (BN.out.fut hb);replace BA:=zH (BA.out.fut hb);replace BB:=zH (BB.out.fut hb);replace BR:=zH (BR.out.fut hb);clear hb;clear k0 k5 k7 k9 k10 k13 k17 k18 a0 a1 b0 b1;have k0:=BN.out.cell 0;have k5:=BN.out.cell 5;have k7:=BN.out.cell 7;have k9:=BN.out.cell 9;have k10:=BN.out.cell 10;have k13:=BN.out.cell 13;have k17:=BN.out.cell 17;have k18:=BN.out.cell 18;have a0:=BA.out.cell 0;have a1:=BA.out.cell 1;have b0:=BB.out.cell 0;have b1:=BB.out.cell 1;simp only [gX] at k0 k5 k7 k9 k10 k13 k17 k18)|(refine wpList_load_mid rfl 85 (.tmp 80) rfl w.heap.size 11 rfl _ _ (range_blk (off:=11) (vs:=[.int .i32 d.qm,.int .i64 d.qs,.int .i8 d.qz]) BN.out rfl) Tryz.underlying85 rfl (by kernel_rfl) ?_)|(go_at_call 109;refine (AQ.out _).mono ?_;rintro e w7 ⟨rfl,hb⟩;replace FR:=zH (FR.out.fut hb);replace BN:=zH (BN.out.fut hb);replace BA:=zH (BA.out.fut hb);replace BB:=zH (BB.out.fut hb);replace BR:=zH (BR.out.fut hb);clear hb)|(refine sB 131 (.tmp 6) (.tmp 91) w3.heap.size #[.int .i8 y1,.int .i8 y2] BR.out ?_;intro w9 B9 g9))
    refine rC B9 Tryz.underlying131 ?_
    exact ⟨by rw [VV.out] <;> rfl,(FR.out.away g9 (by omega)).out⟩
  have hsn:¬ nb=0∧nw % nb=0:=by omega
  have SV:=zH (show (decide (0 < nb) && decide (nw % nb=0))=true by rw [decide_eq_true hsn.2,decide_eq_true (by omega)];rfl)
  rw [SV.out] at SH
  have RW:=zH (fun w hw hb=>RR.out w hw hb h1 hsn.1 hsn.2)
  obtain ⟨⟨p,q⟩,hpq⟩:∃ y,bothR L=y:=⟨_,rfl⟩
  obtain ⟨ok,hok⟩:∃ y,holdsR L=y:=⟨_,rfl⟩
  rw [hpq,hok] at RW VV
  simp only at RW
  have AQ:=zH (AF.out p q)
  obtain ⟨⟨y1,y2⟩,hy⟩:∃ y,afterR (p,q) d.qm d.qs d.qz d.lo d.hi=y:=⟨_,rfl⟩
  rw [hy] at AQ VV
  clear hy hL hsh c2 ge AF RR BD hsk hsn hpq hok h1
  cases ok with
  | false =>
   rw [if_neg (by decide)] at VV
   rcases h123 with h|h|h
   ·have s1:(d.kind == 1)=true:=by rw [h];rfl
    have s2:(d.kind == 2)=false:=by rw [h];rfl
    have s3:(d.kind == 3)=false:=by rw [h];rfl
    clear h
    go_wp2_with (first|(go_at_call 74;refine (SH.out _).mono ?_;rintro e w6 ⟨rfl,hb⟩;replace FR:=zH (FR.out.fut hb);replace BN:=zH (BN.out.fut hb);replace BA:=zH (BA.out.fut hb);replace BB:=zH (BB.out.fut hb);replace BR:=zH (BR.out.fut hb);clear hb;clear k0 k5 k7 k9 k10 k13 k17 k18 a0 a1 b0 b1;have k0:=BN.out.cell 0;have k5:=BN.out.cell 5;have k7:=BN.out.cell 7;have k9:=BN.out.cell 9;have k10:=BN.out.cell 10;have k13:=BN.out.cell 13;have k17:=BN.out.cell 17;have k18:=BN.out.cell 18;have a0:=BA.out.cell 0;have a1:=BA.out.cell 1;have b0:=BB.out.cell 0;have b1:=BB.out.cell 1;simp only [gX] at k0 k5 k7 k9 k10 k13 k17 k18)|(go_at_call 75;refine (RW.out _ (HW.out.fut FR.out.out).all (HB.out.fut FR.out.out).all).mono ?_;rintro e w7 ⟨rfl,hb⟩;replace FR:=zH (FR.out.fut hb);replace BN:=zH (BN.out.fut hb);replace BA:=zH (BA.out.fut hb);replace BB:=zH (BB.out.fut hb);replace BR:=zH (BR.out.fut hb);clear hb)|(refine sB 131 (.tmp 6) (.tmp 76) w3.heap.size #[.int .i8 0,.int .i8 0] BR.out ?_;intro w9 B9 g9))
    refine rC B9 Tryz.underlying131 ?_
    exact ⟨by rw [VV.out] <;> rfl,(FR.out.away g9 (by omega)).out⟩
   ·have s1:(d.kind == 1)=false:=by rw [h];rfl
    have s2:(d.kind == 2)=true:=by rw [h];rfl
    have s3:(d.kind == 3)=false:=by rw [h];rfl
    clear h
    go_wp2_with (first|(go_at_call 74;refine (SH.out _).mono ?_;rintro e w6 ⟨rfl,hb⟩;replace FR:=zH (FR.out.fut hb);replace BN:=zH (BN.out.fut hb);replace BA:=zH (BA.out.fut hb);replace BB:=zH (BB.out.fut hb);replace BR:=zH (BR.out.fut hb);clear hb;clear k0 k5 k7 k9 k10 k13 k17 k18 a0 a1 b0 b1;have k0:=BN.out.cell 0;have k5:=BN.out.cell 5;have k7:=BN.out.cell 7;have k9:=BN.out.cell 9;have k10:=BN.out.cell 10;have k13:=BN.out.cell 13;have k17:=BN.out.cell 17;have k18:=BN.out.cell 18;have a0:=BA.out.cell 0;have a1:=BA.out.cell 1;have b0:=BB.out.cell 0;have b1:=BB.out.cell 1;simp only [gX] at k0 k5 k7 k9 k10 k13 k17 k18)|(go_at_call 75;refine (RW.out _ (HW.out.fut FR.out.out).all (HB.out.fut FR.out.out).all).mono ?_;rintro e w7 ⟨rfl,hb⟩;replace FR:=zH (FR.out.fut hb);replace BN:=zH (BN.out.fut hb);replace BA:=zH (BA.out.fut hb);replace BB:=zH (BB.out.fut hb);replace BR:=zH (BR.out.fut hb);clear hb)|(refine sB 131 (.tmp 6) (.tmp 76) w3.heap.size #[.int .i8 0,.int .i8 0] BR.out ?_;intro w9 B9 g9))
    refine rC B9 Tryz.underlying131 ?_
    exact ⟨by rw [VV.out] <;> rfl,(FR.out.away g9 (by omega)).out⟩
   ·have s1:(d.kind == 1)=false:=by rw [h];rfl
    have s2:(d.kind == 2)=false:=by rw [h];rfl
    have s3:(d.kind == 3)=true:=by rw [h];rfl
    clear h
    go_wp2_with (first|(go_at_call 74;refine (SH.out _).mono ?_;rintro e w6 ⟨rfl,hb⟩;replace FR:=zH (FR.out.fut hb);replace BN:=zH (BN.out.fut hb);replace BA:=zH (BA.out.fut hb);replace BB:=zH (BB.out.fut hb);replace BR:=zH (BR.out.fut hb);clear hb;clear k0 k5 k7 k9 k10 k13 k17 k18 a0 a1 b0 b1;have k0:=BN.out.cell 0;have k5:=BN.out.cell 5;have k7:=BN.out.cell 7;have k9:=BN.out.cell 9;have k10:=BN.out.cell 10;have k13:=BN.out.cell 13;have k17:=BN.out.cell 17;have k18:=BN.out.cell 18;have a0:=BA.out.cell 0;have a1:=BA.out.cell 1;have b0:=BB.out.cell 0;have b1:=BB.out.cell 1;simp only [gX] at k0 k5 k7 k9 k10 k13 k17 k18)|(go_at_call 75;refine (RW.out _ (HW.out.fut FR.out.out).all (HB.out.fut FR.out.out).all).mono ?_;rintro e w7 ⟨rfl,hb⟩;replace FR:=zH (FR.out.fut hb);replace BN:=zH (BN.out.fut hb);replace BA:=zH (BA.out.fut hb);replace BB:=zH (BB.out.fut hb);replace BR:=zH (BR.out.fut hb);clear hb)|(refine sB 131 (.tmp 6) (.tmp 76) w3.heap.size #[.int .i8 0,.int .i8 0] BR.out ?_;intro w9 B9 g9))
    refine rC B9 Tryz.underlying131 ?_
    exact ⟨by rw [VV.out] <;> rfl,(FR.out.away g9 (by omega)).out⟩
  | true =>
   rw [if_pos rfl] at VV
   rcases h123 with h|h|h
   ·have s1:(d.kind == 1)=true:=by rw [h];rfl
    have s2:(d.kind == 2)=false:=by rw [h];rfl
    have s3:(d.kind == 3)=false:=by rw [h];rfl
    clear h
    go_wp2_with (first|(go_at_call 74;refine (SH.out _).mono ?_;rintro e w6 ⟨rfl,hb⟩;replace FR:=zH (FR.out.fut hb);replace BN:=zH (BN.out.fut hb);replace BA:=zH (BA.out.fut hb);replace BB:=zH (BB.out.fut hb);replace BR:=zH (BR.out.fut hb);clear hb;clear k0 k5 k7 k9 k10 k13 k17 k18 a0 a1 b0 b1;have k0:=BN.out.cell 0;have k5:=BN.out.cell 5;have k7:=BN.out.cell 7;have k9:=BN.out.cell 9;have k10:=BN.out.cell 10;have k13:=BN.out.cell 13;have k17:=BN.out.cell 17;have k18:=BN.out.cell 18;have a0:=BA.out.cell 0;have a1:=BA.out.cell 1;have b0:=BB.out.cell 0;have b1:=BB.out.cell 1;simp only [gX] at k0 k5 k7 k9 k10 k13 k17 k18)|(go_at_call 75;refine (RW.out _ (HW.out.fut FR.out.out).all (HB.out.fut FR.out.out).all).mono ?_;rintro e w7 ⟨rfl,hb⟩;replace FR:=zH (FR.out.fut hb);replace BN:=zH (BN.out.fut hb);replace BA:=zH (BA.out.fut hb);replace BB:=zH (BB.out.fut hb);replace BR:=zH (BR.out.fut hb);clear hb;clear k0 k5 k7 k9 k10 k13 k17 k18 a0 a1 b0 b1;have k0:=BN.out.cell 0;have k5:=BN.out.cell 5;have k7:=BN.out.cell 7;have k9:=BN.out.cell 9;have k10:=BN.out.cell 10;have k13:=BN.out.cell 13;have k17:=BN.out.cell 17;have k18:=BN.out.cell 18;have a0:=BA.out.cell 0;have a1:=BA.out.cell 1;have b0:=BB.out.cell 0;have b1:=BB.out.cell 1;simp only [gX] at k0 k5 k7 k9 k10 k13 k17 k18)|(refine wpList_load_mid rfl 85 (.tmp 80) rfl w.heap.size 11 rfl _ _ (range_blk (off:=11) (vs:=[.int .i32 d.qm,.int .i64 d.qs,.int .i8 d.qz]) BN.out rfl) Tryz.underlying85 rfl (by kernel_rfl) ?_)|(go_at_call 109;refine (AQ.out _).mono ?_;rintro e w8 ⟨rfl,hb⟩;replace FR:=zH (FR.out.fut hb);replace BN:=zH (BN.out.fut hb);replace BA:=zH (BA.out.fut hb);replace BB:=zH (BB.out.fut hb);replace BR:=zH (BR.out.fut hb);clear hb)|(refine sB 131 (.tmp 6) (.tmp 91) w3.heap.size #[.int .i8 y1,.int .i8 y2] BR.out ?_;intro w9 B9 g9))
    refine rC B9 Tryz.underlying131 ?_
    exact ⟨by rw [VV.out] <;> rfl,(FR.out.away g9 (by omega)).out⟩
   ·have s1:(d.kind == 1)=false:=by rw [h];rfl
    have s2:(d.kind == 2)=true:=by rw [h];rfl
    have s3:(d.kind == 3)=false:=by rw [h];rfl
    clear h
    go_wp2_with (first|(go_at_call 74;refine (SH.out _).mono ?_;rintro e w6 ⟨rfl,hb⟩;replace FR:=zH (FR.out.fut hb);replace BN:=zH (BN.out.fut hb);replace BA:=zH (BA.out.fut hb);replace BB:=zH (BB.out.fut hb);replace BR:=zH (BR.out.fut hb);clear hb;clear k0 k5 k7 k9 k10 k13 k17 k18 a0 a1 b0 b1;have k0:=BN.out.cell 0;have k5:=BN.out.cell 5;have k7:=BN.out.cell 7;have k9:=BN.out.cell 9;have k10:=BN.out.cell 10;have k13:=BN.out.cell 13;have k17:=BN.out.cell 17;have k18:=BN.out.cell 18;have a0:=BA.out.cell 0;have a1:=BA.out.cell 1;have b0:=BB.out.cell 0;have b1:=BB.out.cell 1;simp only [gX] at k0 k5 k7 k9 k10 k13 k17 k18)|(go_at_call 75;refine (RW.out _ (HW.out.fut FR.out.out).all (HB.out.fut FR.out.out).all).mono ?_;rintro e w7 ⟨rfl,hb⟩;replace FR:=zH (FR.out.fut hb);replace BN:=zH (BN.out.fut hb);replace BA:=zH (BA.out.fut hb);replace BB:=zH (BB.out.fut hb);replace BR:=zH (BR.out.fut hb);clear hb;clear k0 k5 k7 k9 k10 k13 k17 k18 a0 a1 b0 b1;have k0:=BN.out.cell 0;have k5:=BN.out.cell 5;have k7:=BN.out.cell 7;have k9:=BN.out.cell 9;have k10:=BN.out.cell 10;have k13:=BN.out.cell 13;have k17:=BN.out.cell 17;have k18:=BN.out.cell 18;have a0:=BA.out.cell 0;have a1:=BA.out.cell 1;have b0:=BB.out.cell 0;have b1:=BB.out.cell 1;simp only [gX] at k0 k5 k7 k9 k10 k13 k17 k18)|(refine wpList_load_mid rfl 85 (.tmp 80) rfl w.heap.size 11 rfl _ _ (range_blk (off:=11) (vs:=[.int .i32 d.qm,.int .i64 d.qs,.int .i8 d.qz]) BN.out rfl) Tryz.underlying85 rfl (by kernel_rfl) ?_)|(go_at_call 109;refine (AQ.out _).mono ?_;rintro e w8 ⟨rfl,hb⟩;replace FR:=zH (FR.out.fut hb);replace BN:=zH (BN.out.fut hb);replace BA:=zH (BA.out.fut hb);replace BB:=zH (BB.out.fut hb);replace BR:=zH (BR.out.fut hb);clear hb)|(refine sB 131 (.tmp 6) (.tmp 91) w3.heap.size #[.int .i8 y1,.int .i8 y2] BR.out ?_;intro w9 B9 g9))
    refine rC B9 Tryz.underlying131 ?_
    exact ⟨by rw [VV.out] <;> rfl,(FR.out.away g9 (by omega)).out⟩
   ·have s1:(d.kind == 1)=false:=by rw [h];rfl
    have s2:(d.kind == 2)=false:=by rw [h];rfl
    have s3:(d.kind == 3)=true:=by rw [h];rfl
    clear h
    go_wp2_with (first|(go_at_call 74;refine (SH.out _).mono ?_;rintro e w6 ⟨rfl,hb⟩;replace FR:=zH (FR.out.fut hb);replace BN:=zH (BN.out.fut hb);replace BA:=zH (BA.out.fut hb);replace BB:=zH (BB.out.fut hb);replace BR:=zH (BR.out.fut hb);clear hb;clear k0 k5 k7 k9 k10 k13 k17 k18 a0 a1 b0 b1;have k0:=BN.out.cell 0;have k5:=BN.out.cell 5;have k7:=BN.out.cell 7;have k9:=BN.out.cell 9;have k10:=BN.out.cell 10;have k13:=BN.out.cell 13;have k17:=BN.out.cell 17;have k18:=BN.out.cell 18;have a0:=BA.out.cell 0;have a1:=BA.out.cell 1;have b0:=BB.out.cell 0;have b1:=BB.out.cell 1;simp only [gX] at k0 k5 k7 k9 k10 k13 k17 k18)|(go_at_call 75;refine (RW.out _ (HW.out.fut FR.out.out).all (HB.out.fut FR.out.out).all).mono ?_;rintro e w7 ⟨rfl,hb⟩;replace FR:=zH (FR.out.fut hb);replace BN:=zH (BN.out.fut hb);replace BA:=zH (BA.out.fut hb);replace BB:=zH (BB.out.fut hb);replace BR:=zH (BR.out.fut hb);clear hb;clear k0 k5 k7 k9 k10 k13 k17 k18 a0 a1 b0 b1;have k0:=BN.out.cell 0;have k5:=BN.out.cell 5;have k7:=BN.out.cell 7;have k9:=BN.out.cell 9;have k10:=BN.out.cell 10;have k13:=BN.out.cell 13;have k17:=BN.out.cell 17;have k18:=BN.out.cell 18;have a0:=BA.out.cell 0;have a1:=BA.out.cell 1;have b0:=BB.out.cell 0;have b1:=BB.out.cell 1;simp only [gX] at k0 k5 k7 k9 k10 k13 k17 k18)|(refine wpList_load_mid rfl 85 (.tmp 80) rfl w.heap.size 11 rfl _ _ (range_blk (off:=11) (vs:=[.int .i32 d.qm,.int .i64 d.qs,.int .i8 d.qz]) BN.out rfl) Tryz.underlying85 rfl (by kernel_rfl) ?_)|(go_at_call 109;refine (AQ.out _).mono ?_;rintro e w8 ⟨rfl,hb⟩;replace FR:=zH (FR.out.fut hb);replace BN:=zH (BN.out.fut hb);replace BA:=zH (BA.out.fut hb);replace BB:=zH (BB.out.fut hb);replace BR:=zH (BR.out.fut hb);clear hb)|(refine sB 131 (.tmp 6) (.tmp 91) w3.heap.size #[.int .i8 y1,.int .i8 y2] BR.out ?_;intro w9 B9 g9))
    refine rC B9 Tryz.underlying131 ?_
    exact ⟨by rw [VV.out] <;> rfl,(FR.out.away g9 (by omega)).out⟩
 | false =>
 rw [if_neg (by decide),if_neg c6] at VV
 have hns:¬ (d.kind=1 ∨ d.kind=2 ∨ d.kind=3):=fun h=>by unfold sumsK at hsk;rw [decide_eq_true h] at hsk;cases hsk
 have s1:(d.kind == 1)=false:=by simp;omega
 have s2:(d.kind == 2)=false:=by simp;omega
 have s3:(d.kind == 3)=false:=by simp;omega
 clear H1 hns hsk KC
 by_cases c7:d.kind=7
 ·have t7:(d.kind == 7)=true:=by simp [c7]
  rw [if_pos c7] at VV
  try simp only at VV
  obtain ⟨y1,hy1⟩:∃ y,oneV d al=y:=⟨_,rfl⟩
  obtain ⟨y2,hy2⟩:∃ y,oneV d ah=y:=⟨_,rfl⟩
  rw [hy1] at A1 VV
  rw [hy2] at A2 VV
  clear hy1 hy2 c2 ge c7
  go_wp2_with fail
  clear k0 k5 k7 k9 k10 k13 k17 k18 a0 a1 b0 b1
  refine wp_region_T (fun w'=>w'.cell? ⟨w1.heap.size,0,none⟩=some (.int .i8 al)∧w'.cell? ⟨w2.heap.size,0,none⟩=some (.int .i8 bl)∧w'.cell? ⟨w1.heap.size,1,none⟩=some (.int .i8 ah)∧w'.cell? ⟨w2.heap.size,1,none⟩=some (.int .i8 bh)∧Blk w' w.heap.size 87 (nN d.kind d.a d.b d.k d.s d.p d.out d.za d.zb W nw cw B nb cb d.qm d.qs d.qz d.rm d.rs d.rz d.lo d.hi)∧Below w5.heap.size w5 w') 9 (by kernel_rfl) ?_ (fun hS=>?_)
  ·exact ⟨BA.out.drew.cell 0,BB.out.drew.cell 0,BA.out.drew.cell 1,BB.out.drew.cell 1,BN.out.drew,(Below.refl _ _).drew⟩
  refine kT 0 rfl hS ?_
  try simp only [pX]
  refine kT 1 rfl hS ?_
  try simp only [pX]
  refine tkT 2 rfl (yB 87 (.tmp 3) w.heap.size (fun w hs=>hs.2.2.2.2.1) Tryz.underlying87) hS ?_
  try simp only [pX]
  refine kT 4 rfl hS ?_
  try simp only [pX]
  refine kT 5 rfl hS ?_
  try simp only [pX]
  refine tkT 6 rfl (yB 87 (.tmp 3) w.heap.size (fun w hs=>hs.2.2.2.2.1) Tryz.underlying87) hS ?_
  try simp only [pX]
  refine wpAnyT_one (i:=3) (by kernel_rfl) rfl rfl (fun K hK=>?_)
  go_simp
  with_reducible refine (A1.out _).mono ?_;rintro e wm ⟨rfl,hb⟩
  refine hK.out _ _ ?_ (fun hS=>?_)
  ·exact ⟨(by first|exact cell_later hb hS.1|exact Blk.later hS.1 hb),(by first|exact cell_later hb hS.2.1|exact Blk.later hS.2.1 hb),(by first|exact cell_later hb hS.2.2.1|exact Blk.later hS.2.2.1 hb),(by first|exact cell_later hb hS.2.2.2.1|exact Blk.later hS.2.2.2.1 hb),(by first|exact cell_later hb hS.2.2.2.2.1|exact Blk.later hS.2.2.2.2.1 hb),(by first|exact below_later hb hS.2.2.2.2.2|exact grown_below hS.2.2.2.2.2 hb)⟩
  clear hK K
  try simp only [pX]
  refine wpAnyT_one (i:=7) (by kernel_rfl) rfl rfl (fun K hK=>?_)
  go_simp
  with_reducible refine (A2.out _).mono ?_;rintro e wm ⟨rfl,hb⟩
  refine hK.out _ _ ?_ (fun hS=>?_)
  ·exact ⟨(by first|exact cell_later hb hS.1|exact Blk.later hS.1 hb),(by first|exact cell_later hb hS.2.1|exact Blk.later hS.2.1 hb),(by first|exact cell_later hb hS.2.2.1|exact Blk.later hS.2.2.1 hb),(by first|exact cell_later hb hS.2.2.2.1|exact Blk.later hS.2.2.2.1 hb),(by first|exact cell_later hb hS.2.2.2.2.1|exact Blk.later hS.2.2.2.2.1 hb),(by first|exact below_later hb hS.2.2.2.2.2|exact grown_below hS.2.2.2.2.2 hb)⟩
  clear hK K
  try simp only [pX]
  refine kT 8 rfl hS ?_
  try simp only [pX]
  refine wpAnyT_tail _ _ rfl rfl (by kernel_rfl) ?_
  have kd:=hS.2.2.2.2.2
  replace FR:=zH (FR.out.fut kd)
  replace BR:=zH (BR.out.fut kd)
  clear hS kd hb
  go_wp2_with (refine sB 131 (.tmp 6) (.tmp 119) w3.heap.size #[.int .i8 y1,.int .i8 y2] BR.out ?_;intro w9 B9 g9)
  refine rC B9 Tryz.underlying131 ?_
  exact ⟨by rw [VV.out] <;> rfl,(FR.out.away g9 (by omega)).out⟩
 have t7:(d.kind == 7)=false:=by simp [c7]
 rw [if_neg c7] at VV
 by_cases c8:d.kind=8∧0 < d.p
 ·have t8:(d.kind == 8)=true:=by simp [c8.1]
  have t9:decide (0 < d.p)=true:=by simpa using c8.2
  rw [if_pos c8] at VV
  try simp only at VV
  obtain ⟨y1,hy1⟩:∃ y,min al d.za=y:=⟨_,rfl⟩
  obtain ⟨y2,hy2⟩:∃ y,max ah d.za=y:=⟨_,rfl⟩
  rw [hy1,hy2] at VV
  have m1:(if d.za < al then d.za else al)=y1:=by rw [mnI,hy1]
  have m2:(if ah < d.za then d.za else ah)=y2:=by rw [mxI,hy2]
  clear hy1 hy2 c2 ge c8
  go_upto_region 19 with fail
  clear k0 k5 k7 k9 k10 k13 k17 k18 a0 a1 b0 b1
  have k7:=BN.out.cell 7;have k18:=BN.out.cell 8;have a0:=BA.out.cell 0;have a1:=BA.out.cell 1
  simp only [gX] at k7 k18
  go_wp2_with (refine sB 131 (.tmp 6) (.tmp 138) w3.heap.size #[.int .i8 y1,.int .i8 y2] BR.out ?_;intro w9 B9 g9)
  refine rC B9 Tryz.underlying131 ?_
  exact ⟨by rw [VV.out] <;> rfl,(FR.out.away g9 (by omega)).out⟩
 rw [if_neg c8] at VV
 have t8:(d.kind == 8)=true → decide (0 < d.p)=false:=fun h=>by simp only [beq_iff_eq] at h;simpa using fun hp=>c8 ⟨h,hp⟩
 obtain ⟨k8,hk8⟩:∃ b,(d.kind == 8)=b:=⟨_,rfl⟩
 rw [hk8] at t8
 cases k8 with
 | true =>
  have t9:=t8 rfl
  clear t8 c8 c2 ge
  go_wp2_with (first|(refine lB 131 (.tmp 4) w1.heap.size BA.out Tryz.underlying131 ?_)|(refine sB 131 (.tmp 6) (.tmp 139) w3.heap.size #[.int .i8 al,.int .i8 ah] BR.out ?_;intro w9 B9 g9))
  refine rC B9 Tryz.underlying131 ?_
  exact ⟨by rw [VV.out] <;> rfl,(FR.out.away g9 (by omega)).out⟩
 | false =>
  clear t8 c8 c2 ge
  go_wp2_with (first|(refine lB 131 (.tmp 4) w1.heap.size BA.out Tryz.underlying131 ?_)|(refine sB 131 (.tmp 6) (.tmp 139) w3.heap.size #[.int .i8 al,.int .i8 ah] BR.out ?_;intro w9 B9 g9))
  refine rC B9 Tryz.underlying131 ?_
  exact ⟨by rw [VV.out] <;> rfl,(FR.out.away g9 (by omega)).out⟩
end Go.Proofs.YtppcjcigekoipaaGreat
