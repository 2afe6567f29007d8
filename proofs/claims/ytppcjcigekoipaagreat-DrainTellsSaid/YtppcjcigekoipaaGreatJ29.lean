/-
  Between which numbers lies what a node makes (layer 32): guard.Node.
-/
import Derived.Test.YtppcjcigekoipaaGreatJ24
set_option linter.unusedVariables false
set_option linter.unusedSimpArgs false
namespace Go.Proofs.YtppcjcigekoipaaGreat
open Go.RowKit Go.ChangeShapes Go.WideShapes
set_option maxRecDepth 100000
set_option maxHeartbeats 4000000
def nodeR (d:Node) (a b:Int × Int):(Int × Int) × Int :=
 if checkV d ≠ 0 then ((0,0),checkV d) else if a.2 < a.1 ∨ (d.kind=6∧b.2 < b.1) then ((0,0),2)
 else if sumsK d.kind=true then sumsR d a.1 a.2 else if d.kind=6 then ((joinV d a.1 b.1,joinV d a.2 b.2),0) else if d.kind=7 then ((oneV d a.1,oneV d a.2),0)
 else if d.kind=8∧0 < d.p then ((min a.1 d.za,max a.2 d.za),0) else (a,0)
theorem check_may {d:Node} (h:checkV d=0) (h6:d.kind=6):mayV d=true:=by
 unfold checkV at h
 rw [h6] at h
 rw [if_neg (by decide)] at h
 split at h
 ·cases h
 split at h
 ·cases h
 rename_i q
 unfold mayV
 rw [Bool.and_eq_true]
 by_cases q1:quantOk d.qm d.qs=true
 ·by_cases q2:quantOk d.rm d.rs=true
  ·exact ⟨q1,q2⟩
  ·exact absurd (Or.inr ⟨rfl,by simpa using q2⟩) q
 ·exact absurd (Or.inl ⟨rfl,by simpa using q1⟩) q
theorem nodeR_in {d:Node} {a b:Int × Int} (ha:InK .i8 a.1∧InK .i8 a.2) (hb:InK .i8 b.1∧InK .i8 b.2) (hd:NodeIn d):InK .i8 (nodeR d a b).1.1∧InK .i8 (nodeR d a b).1.2:=by
 unfold nodeR
 split
 ·exact ⟨show InK .i8 0 by decide,show InK .i8 0 by decide⟩
 split
 ·exact ⟨show InK .i8 0 by decide,show InK .i8 0 by decide⟩
 split
 ·exact sumsR_in _ _ _
 split
 ·exact ⟨joinV_in _ _ _,joinV_in _ _ _⟩
 split
 ·exact ⟨oneV_in _ _,oneV_in _ _⟩
 split
 ·have:=hd.za
  simp only [inK_i8] at *
  omega
 ·exact ha
theorem guardNode_any (d:Node) (W:Option Addr) (nw cw:Nat) (B:Option Addr) (nb cb:Nat) (al ah bl bh:Int) (w:World) (hw:Sl (tInt .i8) w (blo w.heap.size) W nw cw d.w) (hb:Sl (tInt .i32) w (blo w.heap.size) B nb cb d.bias) (hd:NodeIn d)
  (hal:InK .i8 al) (hah:InK .i8 ah) (hbl:InK .i8 bl) (hbh:InK .i8 bh) (mw:nw≤16384) (mb:nb≤16384) (hw1:sumsK d.kind=true → 1≤nw) :
  Calls Tryz.prog 165 #[.agg (nN d.kind d.a d.b d.k d.s d.p d.out d.za d.zb W nw cw B nb cb d.qm d.qs d.qz d.rm d.rs d.rz d.lo d.hi),.agg #[.int .i8 al,.int .i8 ah],.agg #[.int .i8 bl,.int .i8 bh]] w (RetR (nodeR d (al,ah) (bl,bh)) w):=by
 have CK:=zH (fun w hw hb=>kcheck_any d W nw cw B nb cb w hw hb (by omega) (by omega))
 have SM:=zH (fun w hw hb h1=>summed_any d W nw cw B nb cb al ah w hw hb hd hal hah mw mb h1)
 have SK:=zH (fun w=>sumsK_any d.kind w)
 have J1:=zH (fun hm w=>joinOne_any al bl d W nw cw B nb cb w hal hbl hd hm)
 have J2:=zH (fun hm w=>joinOne_any ah bh d W nw cw B nb cb w hah hbh hd hm)
 have MY:=zH (check_may (d:=d))
 have A1:=zH (fun w=>actOne_any al d W nw cw B nb cb w hal hd)
 have A2:=zH (fun w=>actOne_any ah d W nw cw B nb cb w hah hd)
 have U1:=zH (fun w=>upside_any al ah w)
 have U2:=zH (fun w=>upside_any bl bh w)
 have OV:=zH (fun A w hs=>over_any d.za A 2 2 [al,ah] w hs)
 have OI:=zH (And.intro hal hah)
 have HB:=zH (Old.now hb)
 have HW:=zH (Old.now hw)
 have H1:=zH hw1
 have FR:=zH (Far.refl w)
 obtain ⟨r,hr⟩:∃ r,nodeR d (al,ah) (bl,bh)=r:=⟨_,rfl⟩
 rw [hr]
 unfold nodeR at hr
 obtain ⟨ck,hck⟩:∃ c,checkV d=c:=⟨_,rfl⟩
 rw [hck] at CK hr MY
 have VV:=zH hr.symm
 try simp only at VV
 clear hw hb hd hal hah hbl hbh hw1 hr hck
 obtain ⟨w1,hw_w1,BN,k_w1⟩:=nB w (nN d.kind d.a d.b d.k d.s d.p d.out d.za d.zb W nw cw B nb cb d.qm d.qs d.qz d.rm d.rs d.rz d.lo d.hi) 87
 replace FR:=zH (FR.out.fut k_w1)
 clear k_w1
 obtain ⟨w2,hw_w2,BA,k_w2⟩:=nB w1 #[.int .i8 al,.int .i8 ah] 196
 replace FR:=zH (FR.out.fut k_w2)
 replace BN:=zH (BN.out.fut k_w2)
 clear k_w2
 obtain ⟨w3,hw_w3,BB,k_w3⟩:=nB w2 #[.int .i8 bl,.int .i8 bh] 196
 replace FR:=zH (FR.out.fut k_w3)
 replace BN:=zH (BN.out.fut k_w3)
 replace BA:=zH (BA.out.fut k_w3)
 clear k_w3
 obtain ⟨w4,hw_w4,BR,k_w4⟩:=nB w3 #[.int .i8 0,.int .i8 0] 196
 replace FR:=zH (FR.out.fut k_w4)
 replace BN:=zH (BN.out.fut k_w4)
 replace BA:=zH (BA.out.fut k_w4)
 replace BB:=zH (BB.out.fut k_w4)
 clear k_w4
 have l1:w.heap.size < w1.heap.size:=by rw [← hw_w1];simp
 have l2:w1.heap.size < w2.heap.size:=by rw [← hw_w2];simp
 have l3:w2.heap.size < w3.heap.size:=by rw [← hw_w3];simp
 have l4:w3.heap.size < w4.heap.size:=by rw [← hw_w4];simp
 go_enter Tryz.func165,Tryz.ntmps165
 go_wp2_with (refine lB 87 (.tmp 3) w.heap.size BN.out Tryz.underlying87 ?_)
 clear hw_w1 hw_w2 hw_w3 hw_w4
 refine (CK.out _ (HW.out.fut FR.out.out).all (HB.out.fut FR.out.out).all).mono ?_
 rintro e w5 ⟨rfl,hb⟩
 replace FR:=zH (FR.out.fut hb);replace BN:=zH (BN.out.fut hb);replace BA:=zH (BA.out.fut hb);replace BB:=zH (BB.out.fut hb);replace BR:=zH (BR.out.fut hb);clear hb
 by_cases c1:ck=0
 rotate_left
 ·have t1:(ck != 0)=true:=by simpa using c1
  rw [if_pos c1] at VV
  clear c1
  go_wp2_with (refine sB 196 (.tmp 6) (.tmp 13) w3.heap.size #[.int .i8 0,.int .i8 0] BR.out ?_;intro w9 B9 g9)
  refine rC B9 Tryz.underlying196 ?_
  exact ⟨by rw [VV.out] <;> rfl,(FR.out.away g9 (by omega)).out⟩
 subst c1
 have t1:((0:Int) != 0)=false:=rfl
 rw [if_neg (by decide)] at VV
 have k0:=BN.out.cell 0;simp only [gX] at k0
 by_cases c2:ah < al
 ·have t2:decide (ah < al)=true:=by simpa using c2
  rw [if_pos (.inl c2)] at VV
  clear c2
  go_wp2_with (first|(refine lB 196 (.tmp 4) w1.heap.size BA.out Tryz.underlying196 ?_)|(go_at_call 132;with_reducible refine (U1.out _).mono ?_;rintro e w6 ⟨rfl,hb⟩;replace FR:=zH (FR.out.fut hb);replace BN:=zH (BN.out.fut hb);replace BA:=zH (BA.out.fut hb);replace BB:=zH (BB.out.fut hb);replace BR:=zH (BR.out.fut hb);clear hb)|(refine sB 196 (.tmp 6) (.tmp 26) w3.heap.size #[.int .i8 0,.int .i8 0] BR.out ?_;intro w9 B9 g9))
  refine rC B9 Tryz.underlying196 ?_
  exact ⟨by rw [VV.out] <;> rfl,(FR.out.away g9 (by omega)).out⟩
 have t2:decide (ah < al)=false:=by simpa using c2
 have ge:=Int.not_lt.1 c2
 by_cases c6:d.kind=6
 ·have t6:(d.kind == 6)=true:=by simp [c6]
  by_cases c3:bh < bl
  ·have t3:decide (bh < bl)=true:=by simpa using c3
   rw [if_pos (.inr ⟨c6,c3⟩)] at VV
   clear c2 c3 ge c6
   go_wp2_with (first|(refine lB 196 (.tmp 4) w1.heap.size BA.out Tryz.underlying196 ?_)|(refine wpList_load_midw (by kernel_rfl) 196 (.tmp 5) rfl w2.heap.size 0 rfl _ _ (range_blk (vs:=[.int .i8 bl,.int .i8 bh]) BB.out rfl) Tryz.underlying196 rfl (by kernel_rfl) ?_)|(go_at_call 132;with_reducible refine (U1.out _).mono ?_;rintro e w6 ⟨rfl,hb⟩;replace FR:=zH (FR.out.fut hb);replace BN:=zH (BN.out.fut hb);replace BA:=zH (BA.out.fut hb);replace BB:=zH (BB.out.fut hb);replace BR:=zH (BR.out.fut hb);clear hb;have k0:=BN.out.cell 0;simp only [gX] at k0)|(go_at_call 132;with_reducible refine (U2.out _).mono ?_;rintro e w7 ⟨rfl,hb⟩;replace FR:=zH (FR.out.fut hb);replace BN:=zH (BN.out.fut hb);replace BA:=zH (BA.out.fut hb);replace BB:=zH (BB.out.fut hb);replace BR:=zH (BR.out.fut hb);clear hb;have k0:=BN.out.cell 0;simp only [gX] at k0)|(refine sB 196 (.tmp 6) (.tmp 26) w3.heap.size #[.int .i8 0,.int .i8 0] BR.out ?_;intro w9 B9 g9))
   refine rC B9 Tryz.underlying196 ?_
   exact ⟨by rw [VV.out] <;> rfl,(FR.out.away g9 (by omega)).out⟩
  have t3:decide (bh < bl)=false:=by simpa using c3
  have MM:=zH (MY.out rfl c6)
  have sk:sumsK d.kind=false:=by rw [c6];rfl
  rw [if_neg (show ¬ (ah < al ∨ (d.kind=6∧bh < bl)) by omega)] at VV
  rw [sk,if_neg (by decide),if_pos c6] at VV
  rw [sk] at SK
  replace J1:=zH (J1.out MM.out)
  replace J2:=zH (J2.out MM.out)
  obtain ⟨y1,hy1⟩:∃ y,joinV d al bl=y:=⟨_,rfl⟩
  obtain ⟨y2,hy2⟩:∃ y,joinV d ah bh=y:=⟨_,rfl⟩
  rw [hy1] at J1 VV
  rw [hy2] at J2 VV
  clear c2 c3 ge hy1 hy2 sk c6
  go_wp2_with (first|(refine lB 196 (.tmp 4) w1.heap.size BA.out Tryz.underlying196 ?_)|(refine wpList_load_midw (by kernel_rfl) 196 (.tmp 5) rfl w2.heap.size 0 rfl _ _ (range_blk (vs:=[.int .i8 bl,.int .i8 bh]) BB.out rfl) Tryz.underlying196 rfl (by kernel_rfl) ?_)|(go_at_call 132;with_reducible refine (U1.out _).mono ?_;rintro e w6 ⟨rfl,hb⟩;replace FR:=zH (FR.out.fut hb);replace BN:=zH (BN.out.fut hb);replace BA:=zH (BA.out.fut hb);replace BB:=zH (BB.out.fut hb);replace BR:=zH (BR.out.fut hb);clear hb;have k0:=BN.out.cell 0;simp only [gX] at k0)|(go_at_call 132;with_reducible refine (U2.out _).mono ?_;rintro e w7 ⟨rfl,hb⟩;replace FR:=zH (FR.out.fut hb);replace BN:=zH (BN.out.fut hb);replace BA:=zH (BA.out.fut hb);replace BB:=zH (BB.out.fut hb);replace BR:=zH (BR.out.fut hb);clear hb;have k0:=BN.out.cell 0;simp only [gX] at k0)|(go_at_call 169;refine (SK.out _).mono ?_;rintro e w8 ⟨rfl,rfl⟩))
  refine wp_region_T (fun w'=>w'.cell? ⟨w1.heap.size,0,none⟩=some (.int .i8 al)∧w'.cell? ⟨w2.heap.size,0,none⟩=some (.int .i8 bl)∧w'.cell? ⟨w1.heap.size,1,none⟩=some (.int .i8 ah)∧w'.cell? ⟨w2.heap.size,1,none⟩=some (.int .i8 bh)∧Blk w' w.heap.size 87 (nN d.kind d.a d.b d.k d.s d.p d.out d.za d.zb W nw cw B nb cb d.qm d.qs d.qz d.rm d.rs d.rz d.lo d.hi)∧Below w7.heap.size w7 w') 13 (by kernel_rfl) ?_ (fun hS=>?_)
  ·exact ⟨BA.out.drew.cell 0,BB.out.drew.cell 0,BA.out.drew.cell 1,BB.out.drew.cell 1,BN.out.drew,(Below.refl _ _).drew⟩
  refine kT 0 rfl hS ?_
  try simp only [pX]
  refine kT 1 rfl hS ?_
  try simp only [pX]
  refine kT 2 rfl hS ?_
  try simp only [pX]
  refine kT 3 rfl hS ?_
  try simp only [pX]
  refine tkT 4 rfl (yB 87 (.tmp 3) w.heap.size (fun w hs=>hs.2.2.2.2.1) Tryz.underlying87) hS ?_
  try simp only [pX]
  refine kT 6 rfl hS ?_
  try simp only [pX]
  refine kT 7 rfl hS ?_
  try simp only [pX]
  refine kT 8 rfl hS ?_
  try simp only [pX]
  refine kT 9 rfl hS ?_
  try simp only [pX]
  refine tkT 10 rfl (yB 87 (.tmp 3) w.heap.size (fun w hs=>hs.2.2.2.2.1) Tryz.underlying87) hS ?_
  try simp only [pX]
  refine wpAnyT_one (i:=5) (by kernel_rfl) rfl rfl (fun K hK=>?_)
  go_simp
  with_reducible refine (J1.out _).mono ?_;rintro e wm ⟨rfl,hb⟩
  refine hK.out _ _ ?_ (fun hS=>?_)
  ·exact ⟨(by first|exact cell_later hb hS.1|exact Blk.later hS.1 hb),(by first|exact cell_later hb hS.2.1|exact Blk.later hS.2.1 hb),(by first|exact cell_later hb hS.2.2.1|exact Blk.later hS.2.2.1 hb),(by first|exact cell_later hb hS.2.2.2.1|exact Blk.later hS.2.2.2.1 hb),(by first|exact cell_later hb hS.2.2.2.2.1|exact Blk.later hS.2.2.2.2.1 hb),(by first|exact below_later hb hS.2.2.2.2.2|exact grown_below hS.2.2.2.2.2 hb)⟩
  clear hK K
  try simp only [pX]
  refine wpAnyT_one (i:=11) (by kernel_rfl) rfl rfl (fun K hK=>?_)
  go_simp
  with_reducible refine (J2.out _).mono ?_;rintro e wm ⟨rfl,hb⟩
  refine hK.out _ _ ?_ (fun hS=>?_)
  ·exact ⟨(by first|exact cell_later hb hS.1|exact Blk.later hS.1 hb),(by first|exact cell_later hb hS.2.1|exact Blk.later hS.2.1 hb),(by first|exact cell_later hb hS.2.2.1|exact Blk.later hS.2.2.1 hb),(by first|exact cell_later hb hS.2.2.2.1|exact Blk.later hS.2.2.2.1 hb),(by first|exact cell_later hb hS.2.2.2.2.1|exact Blk.later hS.2.2.2.2.1 hb),(by first|exact below_later hb hS.2.2.2.2.2|exact grown_below hS.2.2.2.2.2 hb)⟩
  clear hK K
  try simp only [pX]
  refine kT 12 rfl hS ?_
  try simp only [pX]
  refine wpAnyT_tail _ _ rfl rfl (by kernel_rfl) ?_
  have kd:=hS.2.2.2.2.2
  replace FR:=zH (FR.out.fut kd)
  replace BR:=zH (BR.out.fut kd)
  clear hS kd hb
  go_wp2_with (refine sB 196 (.tmp 6) (.tmp 52) w3.heap.size #[.int .i8 y1,.int .i8 y2] BR.out ?_;intro w9 B9 g9)
  refine rC B9 Tryz.underlying196 ?_
  exact ⟨by rw [VV.out] <;> rfl,(FR.out.away g9 (by omega)).out⟩
 have t6:(d.kind == 6)=false:=by simp [c6]
 rw [if_neg (show ¬ (ah < al ∨ (d.kind=6∧bh < bl)) by omega)] at VV
 obtain ⟨sk,hsk⟩:∃ b,sumsK d.kind=b:=⟨_,rfl⟩
 rw [hsk] at SK VV H1
 cases sk with
 | true =>
  rw [if_pos rfl] at VV
  try simp only at VV
  obtain ⟨⟨⟨y1,y2⟩,y3⟩,hy⟩:∃ y,sumsR d al ah=y:=⟨_,rfl⟩
  rw [hy] at SM VV
  replace SM:=zH (fun w hw hb=>SM.out w hw hb (H1.out rfl))
  clear hy c2 ge
  go_wp2_with (first|(refine lB 196 (.tmp 4) w1.heap.size BA.out Tryz.underlying196 ?_)|(go_at_call 132;with_reducible refine (U1.out _).mono ?_;rintro e w6 ⟨rfl,hb⟩;replace FR:=zH (FR.out.fut hb);replace BN:=zH (BN.out.fut hb);replace BA:=zH (BA.out.fut hb);replace BB:=zH (BB.out.fut hb);replace BR:=zH (BR.out.fut hb);clear hb;have k0:=BN.out.cell 0;simp only [gX] at k0)|(go_at_call 169;refine (SK.out _).mono ?_;rintro e w8 ⟨rfl,rfl⟩)|(refine lB 87 (.tmp 3) w.heap.size BN.out Tryz.underlying87 ?_)|(go_at_call 181;refine (SM.out _ (HW.out.fut FR.out.out).all (HB.out.fut FR.out.out).all).mono ?_;rintro e w8 ⟨rfl,hb⟩;replace FR:=zH (FR.out.fut hb);replace BN:=zH (BN.out.fut hb);replace BA:=zH (BA.out.fut hb);replace BB:=zH (BB.out.fut hb);replace BR:=zH (BR.out.fut hb);clear hb)|(refine sB 196 (.tmp 6) (.tmp 34) w3.heap.size #[.int .i8 y1,.int .i8 y2] BR.out ?_;intro w9 B9 g9))
  refine rC B9 Tryz.underlying196 ?_
  exact ⟨by rw [VV.out] <;> rfl,(FR.out.away g9 (by omega)).out⟩
 | false =>
 rw [if_neg (by decide),if_neg c6] at VV
 clear H1
 by_cases c7:d.kind=7
 ·have t7:(d.kind == 7)=true:=by simp [c7]
  rw [if_pos c7] at VV
  try simp only at VV
  obtain ⟨y1,hy1⟩:∃ y,oneV d al=y:=⟨_,rfl⟩
  obtain ⟨y2,hy2⟩:∃ y,oneV d ah=y:=⟨_,rfl⟩
  rw [hy1] at A1 VV
  rw [hy2] at A2 VV
  clear hy1 hy2 c2 ge c7
  go_wp2_with (first|(refine lB 196 (.tmp 4) w1.heap.size BA.out Tryz.underlying196 ?_)|(go_at_call 132;with_reducible refine (U1.out _).mono ?_;rintro e w6 ⟨rfl,hb⟩;replace FR:=zH (FR.out.fut hb);replace BN:=zH (BN.out.fut hb);replace BA:=zH (BA.out.fut hb);replace BB:=zH (BB.out.fut hb);replace BR:=zH (BR.out.fut hb);clear hb;have k0:=BN.out.cell 0;simp only [gX] at k0)|(go_at_call 169;refine (SK.out _).mono ?_;rintro e w8 ⟨rfl,rfl⟩))
  refine wp_region_T (fun w'=>w'.cell? ⟨w1.heap.size,0,none⟩=some (.int .i8 al)∧w'.cell? ⟨w2.heap.size,0,none⟩=some (.int .i8 bl)∧w'.cell? ⟨w1.heap.size,1,none⟩=some (.int .i8 ah)∧w'.cell? ⟨w2.heap.size,1,none⟩=some (.int .i8 bh)∧Blk w' w.heap.size 87 (nN d.kind d.a d.b d.k d.s d.p d.out d.za d.zb W nw cw B nb cb d.qm d.qs d.qz d.rm d.rs d.rz d.lo d.hi)∧Below w6.heap.size w6 w') 9 (by kernel_rfl) ?_ (fun hS=>?_)
  ·exact ⟨BA.out.drew.cell 0,BB.out.drew.cell 0,BA.out.drew.cell 1,BB.out.drew.cell 1,BN.out.drew,(Below.refl _ _).drew⟩
  refine kT 0 rfl hS ?_
  try simp only [pX]
  refine kT 1 rfl hS ?_
  try simp only [pX]
  refine tkT 2 rfl (yB 87 (.tmp 3) w.heap.size (fun w hs=>hs.2.2.2.2.1) Tryz.underlying87) hS ?_
  try simp only [pX]
  refine kT 4 rfl hS ?_
  try simp only [pX]
  refine kT 5 rfl hS ?_
  try simp only [pX]
  refine tkT 6 rfl (yB 87 (.tmp 3) w.heap.size (fun w hs=>hs.2.2.2.2.1) Tryz.underlying87) hS ?_
  try simp only [pX]
  refine wpAnyT_one (i:=3) (by kernel_rfl) rfl rfl (fun K hK=>?_)
  go_simp
  with_reducible refine (A1.out _).mono ?_;rintro e wm ⟨rfl,hb⟩
  refine hK.out _ _ ?_ (fun hS=>?_)
  ·exact ⟨(by first|exact cell_later hb hS.1|exact Blk.later hS.1 hb),(by first|exact cell_later hb hS.2.1|exact Blk.later hS.2.1 hb),(by first|exact cell_later hb hS.2.2.1|exact Blk.later hS.2.2.1 hb),(by first|exact cell_later hb hS.2.2.2.1|exact Blk.later hS.2.2.2.1 hb),(by first|exact cell_later hb hS.2.2.2.2.1|exact Blk.later hS.2.2.2.2.1 hb),(by first|exact below_later hb hS.2.2.2.2.2|exact grown_below hS.2.2.2.2.2 hb)⟩
  clear hK K
  try simp only [pX]
  refine wpAnyT_one (i:=7) (by kernel_rfl) rfl rfl (fun K hK=>?_)
  go_simp
  with_reducible refine (A2.out _).mono ?_;rintro e wm ⟨rfl,hb⟩
  refine hK.out _ _ ?_ (fun hS=>?_)
  ·exact ⟨(by first|exact cell_later hb hS.1|exact Blk.later hS.1 hb),(by first|exact cell_later hb hS.2.1|exact Blk.later hS.2.1 hb),(by first|exact cell_later hb hS.2.2.1|exact Blk.later hS.2.2.1 hb),(by first|exact cell_later hb hS.2.2.2.1|exact Blk.later hS.2.2.2.1 hb),(by first|exact cell_later hb hS.2.2.2.2.1|exact Blk.later hS.2.2.2.2.1 hb),(by first|exact below_later hb hS.2.2.2.2.2|exact grown_below hS.2.2.2.2.2 hb)⟩
  clear hK K
  try simp only [pX]
  refine kT 8 rfl hS ?_
  try simp only [pX]
  refine wpAnyT_tail _ _ rfl rfl (by kernel_rfl) ?_
  have kd:=hS.2.2.2.2.2
  replace FR:=zH (FR.out.fut kd)
  replace BR:=zH (BR.out.fut kd)
  clear hS kd hb
  go_wp2_with (refine sB 196 (.tmp 6) (.tmp 65) w3.heap.size #[.int .i8 y1,.int .i8 y2] BR.out ?_;intro w9 B9 g9)
  refine rC B9 Tryz.underlying196 ?_
  exact ⟨by rw [VV.out] <;> rfl,(FR.out.away g9 (by omega)).out⟩
 have t7:(d.kind == 7)=false:=by simp [c7]
 rw [if_neg c7] at VV
 by_cases c8:d.kind=8∧0 < d.p
 ·have t8:(d.kind == 8)=true:=by simp [c8.1]
  have t9:decide (0 < d.p)=true:=by simpa using c8.2
  rw [if_pos c8] at VV
  try simp only at VV
  have OF:=zH (show ofR d.za [al,ah]=(min al d.za,max ah d.za) by show (min (min d.za al) ah,max (max d.za al) ah)=_;congr 1 <;> omega)
  obtain ⟨y1,hy1⟩:∃ y,min al d.za=y:=⟨_,rfl⟩
  obtain ⟨y2,hy2⟩:∃ y,max ah d.za=y:=⟨_,rfl⟩
  rw [hy1,hy2] at VV OF
  rw [OF.out] at OV
  clear hy1 hy2 c2 ge c8
  go_wp2_with (first|(refine lB 196 (.tmp 4) w1.heap.size BA.out Tryz.underlying196 ?_)|((go_at_call 132;with_reducible refine (U1.out _).mono ?_;rintro e w6 ⟨rfl,hb⟩;replace FR:=zH (FR.out.fut hb);replace BN:=zH (BN.out.fut hb);replace BA:=zH (BA.out.fut hb);replace BB:=zH (BB.out.fut hb);replace BR:=zH (BR.out.fut hb);clear hb;have k0:=BN.out.cell 0;simp only [gX] at k0);have k5:=BN.out.cell 5;have k7:=BN.out.cell 7;have a0:=BA.out.cell 0;have a1:=BA.out.cell 1;simp only [gX] at k5 k7)|(go_at_call 169;refine (SK.out _).mono ?_;rintro e w8 ⟨rfl,rfl⟩;obtain ⟨w7,hw_w7⟩:∃ nw_,w6.alloc (.cells #[.int .i8 al,.int .i8 ah] 83)=nw_:=⟨_,rfl⟩;have k_7:Below w6.heap.size w6 w7:=(by rw [← hw_w7];exact (Below.refl _ _).alloc (Nat.le_refl _) _);replace FR:=zH (FR.out.fut k_7);replace BR:=zH (BR.out.fut k_7);have BL:=zH (show Blk w7 w6.heap.size 83 #[.int .i8 al,.int .i8 ah] by rw [← hw_w7];exact Blk.now _ _ _ _ rfl);clear k_7)|(go_at_call 184;refine (OV.out _ _ (Sl.lit _ BL.out.heap rfl (by intro x hx;simp only [List.mem_cons,List.not_mem_nil,or_false] at hx;rcases hx with rfl|rfl;exact OI.out.1;exact OI.out.2) BL.out.lt rfl rfl (by unfold maxLen;simp))).mono ?_;rintro e w8 ⟨rfl,hb⟩;replace FR:=zH (FR.out.fut hb);replace BR:=zH (BR.out.fut hb);clear hb hw_w7)|(refine sB 196 (.tmp 6) (.tmp 82) w3.heap.size #[.int .i8 y1,.int .i8 y2] BR.out ?_;intro w9 B9 g9))
  refine rC B9 Tryz.underlying196 ?_
  exact ⟨by rw [VV.out] <;> rfl,(FR.out.away g9 (by omega)).out⟩
 rw [if_neg c8] at VV
 have t8:(d.kind == 8)=true → decide (0 < d.p)=false:=fun h=>by simp only [beq_iff_eq] at h;simpa using fun hp=>c8 ⟨h,hp⟩
 obtain ⟨k8,hk8⟩:∃ b,(d.kind == 8)=b:=⟨_,rfl⟩
 rw [hk8] at t8
 cases k8 with
 | true =>
  have t9:=t8 rfl
  clear t8 c8 c2 ge
  go_wp2_with (first|(refine lB 196 (.tmp 4) w1.heap.size BA.out Tryz.underlying196 ?_)|((go_at_call 132;with_reducible refine (U1.out _).mono ?_;rintro e w6 ⟨rfl,hb⟩;replace FR:=zH (FR.out.fut hb);replace BN:=zH (BN.out.fut hb);replace BA:=zH (BA.out.fut hb);replace BB:=zH (BB.out.fut hb);replace BR:=zH (BR.out.fut hb);clear hb;have k0:=BN.out.cell 0;simp only [gX] at k0);have k5:=BN.out.cell 5;have k7:=BN.out.cell 7;have a0:=BA.out.cell 0;have a1:=BA.out.cell 1;simp only [gX] at k5 k7)|(go_at_call 169;refine (SK.out _).mono ?_;rintro e w8 ⟨rfl,rfl⟩)|(refine sB 196 (.tmp 6) (.tmp 83) w3.heap.size #[.int .i8 al,.int .i8 ah] BR.out ?_;intro w9 B9 g9))
  refine rC B9 Tryz.underlying196 ?_
  exact ⟨by rw [VV.out] <;> rfl,(FR.out.away g9 (by omega)).out⟩
 | false =>
  clear t8 c8 c2 ge
  go_wp2_with (first|(refine lB 196 (.tmp 4) w1.heap.size BA.out Tryz.underlying196 ?_)|(go_at_call 132;with_reducible refine (U1.out _).mono ?_;rintro e w6 ⟨rfl,hb⟩;replace FR:=zH (FR.out.fut hb);replace BN:=zH (BN.out.fut hb);replace BA:=zH (BA.out.fut hb);replace BB:=zH (BB.out.fut hb);replace BR:=zH (BR.out.fut hb);clear hb;have k0:=BN.out.cell 0;simp only [gX] at k0)|(go_at_call 169;refine (SK.out _).mono ?_;rintro e w8 ⟨rfl,rfl⟩)|(refine sB 196 (.tmp 6) (.tmp 83) w3.heap.size #[.int .i8 al,.int .i8 ah] BR.out ?_;intro w9 B9 g9))
  refine rC B9 Tryz.underlying196 ?_
  exact ⟨by rw [VV.out] <;> rfl,(FR.out.away g9 (by omega)).out⟩
end Go.Proofs.YtppcjcigekoipaaGreat
