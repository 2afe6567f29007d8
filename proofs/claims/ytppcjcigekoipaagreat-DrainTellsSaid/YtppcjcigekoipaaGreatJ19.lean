/-
  What a node's kind tells (layer 25): kinds.Plain, some of the kinds.
-/
import Derived.Test.YtppcjcigekoipaaGreatJ17
set_option linter.unusedVariables false
set_option linter.unusedSimpArgs false
namespace Go.Proofs.YtppcjcigekoipaaGreat
open Go.RowKit Go.ChangeShapes Go.WideShapes
set_option maxRecDepth 100000
set_option maxHeartbeats 8000000 in
theorem plain_1 (a b k s p out za zb qm qs qz rm rs rz lo hi:Int) (wl bl:List Int) (W:Option Addr) (nw cw:Nat) (B:Option Addr) (nb cb:Nat) (w:World) (hw:Sl (tInt .i8) w (blo w.heap.size) W nw cw wl) (hb:Sl (tInt .i32) w (blo w.heap.size) B nb cb bl) (mw:nw≤1048576) (mb:nb≤1048576) :
  Calls Tryz.prog 140 #[.agg (nN 1 a b k s p out za zb W nw cw B nb cb qm qs qz rm rs rz lo hi)] w (RetNode ⟨1,a,0,k,s,p,out,za,0,wl,bl,qm,qs,qz,0,0,0,lo,hi⟩ w):=by
 have HW:=zH (Old.now hw)
 have HB:=zH (Old.now hb)
 clear hw hb
 have SC:=zH (fun w=>scaledK_any 1 w)
 rw [show scaledK 1=true from rfl] at SC
 have NM:=zH (fun w=>kname_any 1 w)
 have FR:=zH (Far.refl w)
 obtain ⟨w1,hw_w1,BN,k_w1⟩:=nB w (nN 1 a b k s p out za zb W nw cw B nb cb qm qs qz rm rs rz lo hi) 87
 replace FR:=zH (FR.out.fut k_w1)
 replace HW:=zH (HW.out.fut k_w1)
 replace HB:=zH (HB.out.fut k_w1)
 clear k_w1
 obtain ⟨w2,hw_w2,BR,k_w2⟩:=nB w1 (nN 0 0 0 0 0 0 0 0 0 none 0 0 none 0 0 0 0 0 0 0 0 0 0) 87
 replace FR:=zH (FR.out.fut k_w2)
 replace HW:=zH (HW.out.fut k_w2)
 replace HB:=zH (HB.out.fut k_w2)
 replace BN:=zH (BN.out.fut k_w2)
 clear k_w2
 have cN0:=BN.out.cell 0
 have cN1:=BN.out.cell 1
 go_enter Tryz.func140,Tryz.ntmps140
 go_wp2_with fail
 have lr0:=zH (show w.heap.size≤w1.heap.size by rw [← hw_w1];simp)
 clear hw_w1 hw_w2
 refine (NM.out _).mono ?_
 rintro e w3 ⟨rfl,hb⟩
 have tn:(nameOf 1).toList.isEmpty=false:=by rw [ByteArray.toList_eq];rfl
 clear cN0 cN1
 replace FR:=zH (FR.out.fut hb)
 replace HW:=zH (HW.out.fut hb)
 replace HB:=zH (HB.out.fut hb)
 replace BN:=zH (BN.out.fut hb)
 replace BR:=zH (BR.out.fut hb)
 clear hb
 have ln:w.heap.size < w3.heap.size:=BN.out.lt
 have lr:w1.heap.size < w3.heap.size:=BR.out.lt
 have cN0:=BN.out.cell 0
 have cN1:=BN.out.cell 1
 obtain ⟨w4,hw_w4,BM,k_w4⟩:=nB w3 (nN 0 0 0 0 0 0 0 0 0 none 0 0 none 0 0 0 0 0 0 0 0 0 0) 87
 replace FR:=zH (FR.out.fut k_w4)
 replace HW:=zH (HW.out.fut k_w4)
 replace HB:=zH (HB.out.fut k_w4)
 replace BN:=zH (BN.out.fut k_w4)
 replace BR:=zH (BR.out.fut k_w4)
 clear k_w4
 go_wp2_with (first
  | (refine sB 87 (.tmp 3) (.tmp 13) w3.heap.size (nN 1 a 0 0 0 0 0 0 0 none 0 0 none 0 0 0 0 0 0 0 0 0 0) BM.out ?_;intro w5 BM5 g5;have cM0:=(BN.out.away g5 (by omega)).cell 0;have c6:=(BN.out.away g5 (by omega)).cell 6)
  | (refine wpList_store_one rfl 3 (.tmp 31) (.tmp 30) rfl w3.heap.size 6 (.int .i64 out) rfl rfl rfl rfl _ (nN 1 a 0 0 0 0 0 0 0 none 0 0 none 0 0 0 0 0 0 0 0 0 0) (nN 1 a 0 0 0 0 out 0 0 none 0 0 none 0 0 0 0 0 0 0 0 0 0) BM5 (by simp) (by kernel_rfl) rfl ?_;intro w6 BM6 g6))
 clear hw_w4 c6 cM0
 clear cN0 cN1
 replace FR:=zH (FR.out.away g5 (by omega))
 replace HW:=zH (HW.out.away g5 (by omega))
 replace HB:=zH (HB.out.away g5 (by omega))
 replace BN:=zH (BN.out.away g5 (by omega))
 replace BR:=zH (BR.out.away g5 (by omega))
 clear g5
 replace FR:=zH (FR.out.away g6 (by omega))
 replace HW:=zH (HW.out.away g6 (by omega))
 replace HB:=zH (HB.out.away g6 (by omega))
 replace BN:=zH (BN.out.away g6 (by omega))
 replace BR:=zH (BR.out.away g6 (by omega))
 clear g6
 have lm:w3.heap.size < w6.heap.size:=BM6.lt
 refine wp_region_held_drew (S:=fun w'=>w'.cell? ⟨w.heap.size,9,none⟩=some (.slice W nw cw)∧w'.cell? ⟨w.heap.size,10,none⟩=some (.slice B nb cb)∧Blk w' w.heap.size 87 (nN 1 a b k s p out za zb W nw cw B nb cb qm qs qz rm rs rz lo hi)∧Below w.heap.size w w') (by kernel_rfl) ?_ (fun hS=>?_)
 ·exact ⟨BN.out.drew.cell 9,BN.out.drew.cell 10,BN.out.drew,FR.out.out.drew⟩
 refine kH 0 rfl hS ?_
 try simp only [pX]
 refine kH 1 rfl hS ?_
 try simp only [pX]
 refine kH 3 rfl hS ?_
 try simp only [pX]
 refine kH 4 rfl hS ?_
 try simp only [pX]
 refine rH 2 rfl (fun K hK=>?_)
 go_simp
 refine (clone8_any W nw cw wl _ (HW.out.fut (Below.refl _ _).drew).all (by omega)).mono ?_;rintro e wa ⟨W1,n1,c1,rfl,hs,hb⟩;have SA:=zH hs;have KA:=zH (below_call (Below.refl _ _).drew hb (Nat.le_refl _));clear hs
 refine hK.out _ _ ?_ (fun hS=>?_)
 ·exact ⟨(by first|exact cell_later hb hS.1|exact Blk.later hS.1 hb),(by first|exact cell_later hb hS.2.1|exact Blk.later hS.2.1 hb),(by first|exact cell_later hb hS.2.2.1|exact Blk.later hS.2.2.1 hb),below_later hb hS.2.2.2⟩
 clear hK K
 try simp only [pX]
 refine kH 6 rfl hS ?_
 try simp only [pX]
 refine rH 5 rfl (fun K hK=>?_)
 go_simp
 refine (clone32_any B nb cb bl _ (HB.out.fut KA.out).all (by omega)).mono ?_;rintro e wb ⟨B1,n2,c2,rfl,hs,hb⟩;have SB:=zH hs;have KAB:=zH hb;have KB:=zH (below_call KA.out hb KA.out.size);clear hs;have BMb:=zH (BM6.later KB.out)
 refine hK.out _ _ ?_ (fun hS=>?_)
 ·exact ⟨(by first|exact cell_later hb hS.1|exact Blk.later hS.1 hb),(by first|exact cell_later hb hS.2.1|exact Blk.later hS.2.1 hb),(by first|exact cell_later hb hS.2.2.1|exact Blk.later hS.2.2.1 hb),below_later hb hS.2.2.2⟩
 clear hK K
 try simp only [pX]
 refine rH 7 rfl (fun K hK=>?_)
 (rw [if_pos (by rfl)];refine oper_store_one 44 (.tmp 38) (.tmp 34) rfl w3.heap.size 9 (.slice W1 n1 c1) rfl rfl rfl rfl _ (nN 1 a 0 0 0 0 out 0 0 none 0 0 none 0 0 0 0 0 0 0 0 0 0) (nN 1 a 0 0 0 0 out 0 0 W1 n1 c1 none 0 0 0 0 0 0 0 0 0 0) BMb.out (by simp) (by kernel_rfl) rfl ?_;intro w7 BM7 g7;have BN7:=(hS.2.2.1).away g7 (by omega);refine hK.out _ _ ⟨BN7.cell 9,BN7.cell 10,BN7,(hS.2.2.2).grown g7 (hS.2.2.2).size (fun k h=>by have:=Option.some.inj h;omega)⟩ (fun hS=>?_))
 clear hK K
 try simp only [pX]
 refine kH 8 rfl hS ?_
 try simp only [pX]
 refine rH 9 rfl (fun K hK=>?_)
 (rw [if_pos (by rfl)];refine oper_store_one 45 (.tmp 39) (.tmp 37) rfl w3.heap.size 10 (.slice B1 n2 c2) rfl rfl rfl rfl _ (nN 1 a 0 0 0 0 out 0 0 W1 n1 c1 none 0 0 0 0 0 0 0 0 0 0) (nN 1 a 0 0 0 0 out 0 0 W1 n1 c1 B1 n2 c2 0 0 0 0 0 0 0 0) BM7 (by simp) (by kernel_rfl) rfl ?_;intro w8 BM8 g8;have BN8:=(hS.2.2.1).away g8 (by omega);refine hK.out _ _ ⟨BN8.cell 9,BN8.cell 10,BN8,(hS.2.2.2).grown g8 (hS.2.2.2).size (fun k h=>by have:=Option.some.inj h;omega)⟩ (fun hS=>?_))
 clear hK K
 try simp only [pX]
 refine wpAnyH_done (by kernel_rfl) ?_ _
 replace FR:=zH (Far.mk (hS.2.2.2))
 replace BN:=zH (hS.2.2.1)
 clear hS BN7 BN8
 have NW:=zH (New.mk (w0:=w6) ((SA.out.below KAB.out (fun _ h=>h.2)).more (fun x hx=>⟨hx.1,Nat.lt_of_lt_of_le hx.2 KAB.out.size⟩)))
 have NB:=zH (New.mk (w0:=w6) (SB.out.more (fun x hx=>⟨Nat.le_trans (show w6.heap.size≤wa.heap.size from KA.out.size) hx.1,hx.2⟩)))
 replace BR:=zH (BR.out.fut KB.out)
 clear SA SB KAB KA hb KB HW HB BMb BM6
 replace BR:=zH (BR.out.away g7 (by omega))
 replace NW:=zH (NW.out.away g7 (by omega))
 replace NB:=zH (NB.out.away g7 (by omega))
 clear g7
 replace BR:=zH (BR.out.away g8 (by omega))
 replace NW:=zH (NW.out.away g8 (by omega))
 replace NB:=zH (NB.out.away g8 (by omega))
 clear g8
 clear BM7
 go_wp2_with fail
 refine wp_region_held_drew (S:=fun w'=>w'.cell? ⟨w.heap.size,3,none⟩=some (.int .i64 k)∧w'.cell? ⟨w.heap.size,4,none⟩=some (.int .i64 s)∧w'.cell? ⟨w.heap.size,5,none⟩=some (.int .i64 p)∧Blk w' w.heap.size 87 (nN 1 a b k s p out za zb W nw cw B nb cb qm qs qz rm rs rz lo hi)∧Below w.heap.size w w') (by kernel_rfl) ?_ (fun hS=>?_)
 ·exact ⟨BN.out.drew.cell 3,BN.out.drew.cell 4,BN.out.drew.cell 5,BN.out.drew,FR.out.out.drew⟩
 refine kH 0 rfl hS ?_
 try simp only [pX]
 refine kH 1 rfl hS ?_
 try simp only [pX]
 refine kH 2 rfl hS ?_
 try simp only [pX]
 refine kH 3 rfl hS ?_
 try simp only [pX]
 refine kH 4 rfl hS ?_
 try simp only [pX]
 refine kH 5 rfl hS ?_
 try simp only [pX]
 refine kH 6 rfl hS ?_
 try simp only [pX]
 refine rH 7 rfl (fun K hK=>?_)
 (rw [if_pos (by rfl)];refine oper_store_one 3 (.tmp 46) (.tmp 41) rfl w3.heap.size 3 (.int .i64 k) rfl rfl rfl rfl _ (nN 1 a 0 0 0 0 out 0 0 W1 n1 c1 B1 n2 c2 0 0 0 0 0 0 0 0) (nN 1 a 0 k 0 0 out 0 0 W1 n1 c1 B1 n2 c2 0 0 0 0 0 0 0 0) BM8.drew (by simp) (by kernel_rfl) rfl ?_;intro w9 BM9 g9;have BN9:=(hS.2.2.2.1).away g9 (by omega);refine hK.out _ _ ⟨BN9.cell 3,BN9.cell 4,BN9.cell 5,BN9,(hS.2.2.2.2).grown g9 (hS.2.2.2.2).size (fun k h=>by have:=Option.some.inj h;omega)⟩ (fun hS=>?_))
 clear hK K
 try simp only [pX]
 refine kH 8 rfl hS ?_
 try simp only [pX]
 refine rH 9 rfl (fun K hK=>?_)
 (rw [if_pos (by rfl)];refine oper_store_one 3 (.tmp 47) (.tmp 43) rfl w3.heap.size 4 (.int .i64 s) rfl rfl rfl rfl _ (nN 1 a 0 k 0 0 out 0 0 W1 n1 c1 B1 n2 c2 0 0 0 0 0 0 0 0) (nN 1 a 0 k s 0 out 0 0 W1 n1 c1 B1 n2 c2 0 0 0 0 0 0 0 0) BM9 (by simp) (by kernel_rfl) rfl ?_;intro w10 BM10 g10;have BN10:=(hS.2.2.2.1).away g10 (by omega);refine hK.out _ _ ⟨BN10.cell 3,BN10.cell 4,BN10.cell 5,BN10,(hS.2.2.2.2).grown g10 (hS.2.2.2.2).size (fun k h=>by have:=Option.some.inj h;omega)⟩ (fun hS=>?_))
 clear hK K
 try simp only [pX]
 refine kH 10 rfl hS ?_
 try simp only [pX]
 refine rH 11 rfl (fun K hK=>?_)
 (rw [if_pos (by rfl)];refine oper_store_one 3 (.tmp 48) (.tmp 45) rfl w3.heap.size 5 (.int .i64 p) rfl rfl rfl rfl _ (nN 1 a 0 k s 0 out 0 0 W1 n1 c1 B1 n2 c2 0 0 0 0 0 0 0 0) (nN 1 a 0 k s p out 0 0 W1 n1 c1 B1 n2 c2 0 0 0 0 0 0 0 0) BM10 (by simp) (by kernel_rfl) rfl ?_;intro w11 BM11 g11;have BN11:=(hS.2.2.2.1).away g11 (by omega);refine hK.out _ _ ⟨BN11.cell 3,BN11.cell 4,BN11.cell 5,BN11,(hS.2.2.2.2).grown g11 (hS.2.2.2.2).size (fun k h=>by have:=Option.some.inj h;omega)⟩ (fun hS=>?_))
 clear hK K
 try simp only [pX]
 refine wpAnyH_done (by kernel_rfl) ?_ _
 replace FR:=zH (Far.mk (hS.2.2.2.2))
 replace BN:=zH (hS.2.2.2.1)
 clear hS BN9 BN10 BN11
 replace BR:=zH (BR.out.draw)
 replace NW:=zH (NW.out.draw)
 replace NB:=zH (NB.out.draw)
 replace BR:=zH (BR.out.away g9 (by omega))
 replace NW:=zH (NW.out.away g9 (by omega))
 replace NB:=zH (NB.out.away g9 (by omega))
 clear g9
 replace BR:=zH (BR.out.away g10 (by omega))
 replace NW:=zH (NW.out.away g10 (by omega))
 replace NB:=zH (NB.out.away g10 (by omega))
 clear g10
 replace BR:=zH (BR.out.away g11 (by omega))
 replace NW:=zH (NW.out.away g11 (by omega))
 replace NB:=zH (NB.out.away g11 (by omega))
 clear g11
 clear BM9
 clear BM10
 have cN0:=BN.out.cell 0
 go_wp2_with (go_at_call 141;refine (SC.out _).mono ?_;rintro e w' ⟨rfl,rfl⟩)
 clear cN0
 refine wp_region_held_drew (S:=fun w'=>w'.cell? ⟨w.heap.size,7,none⟩=some (.int .i8 za)∧w'.cell? ⟨w.heap.size,17,none⟩=some (.int .i8 lo)∧w'.cell? ⟨w.heap.size,18,none⟩=some (.int .i8 hi)∧Blk w' w.heap.size 87 (nN 1 a b k s p out za zb W nw cw B nb cb qm qs qz rm rs rz lo hi)∧Below w.heap.size w w') (by kernel_rfl) ?_ (fun hS=>?_)
 ·exact ⟨BN.out.drew.cell 7,BN.out.drew.cell 17,BN.out.drew.cell 18,BN.out.drew,FR.out.out.drew⟩
 refine kH 0 rfl hS ?_
 try simp only [pX]
 refine kH 1 rfl hS ?_
 try simp only [pX]
 refine kH 2 rfl hS ?_
 try simp only [pX]
 refine tkH 3 rfl (yieldsIf_load_blk (by rfl) 85 (.tmp 85) rfl w.heap.size 11 rfl _ _ #[.int .i32 qm,.int .i64 qs,.int .i8 qz] _ (fun w hs=>hs.2.2.2.1) Tryz.underlying85 rfl (by kernel_rfl) rfl) hS ?_
 try simp only [pX]
 refine kH 4 rfl hS ?_
 try simp only [pX]
 refine kH 5 rfl hS ?_
 try simp only [pX]
 refine kH 6 rfl hS ?_
 try simp only [pX]
 refine kH 7 rfl hS ?_
 try simp only [pX]
 refine kH 8 rfl hS ?_
 try simp only [pX]
 refine rH 9 rfl (fun K hK=>?_)
 (rw [if_pos (by rfl)];refine oper_store_one 83 (.tmp 91) (.tmp 84) rfl w3.heap.size 7 (.int .i8 za) rfl rfl rfl rfl _ (nN 1 a 0 k s p out 0 0 W1 n1 c1 B1 n2 c2 0 0 0 0 0 0 0 0) (nN 1 a 0 k s p out za 0 W1 n1 c1 B1 n2 c2 0 0 0 0 0 0 0 0) BM11.drew (by simp) (by kernel_rfl) rfl ?_;intro w12 BM12 g12;have BN12:=(hS.2.2.2.1).away g12 (by omega);refine hK.out _ _ ⟨BN12.cell 7,BN12.cell 17,BN12.cell 18,BN12,(hS.2.2.2.2).grown g12 (hS.2.2.2.2).size (fun k h=>by have:=Option.some.inj h;omega)⟩ (fun hS=>?_))
 clear hK K
 try simp only [pX]
 refine kH 10 rfl hS ?_
 try simp only [pX]
 refine rH 11 rfl (fun K hK=>?_)
 (rw [if_pos (by rfl)];refine oper_store_blk 85 (.tmp 92) (.tmp 86) rfl w3.heap.size 11 #[.int .i32 qm,.int .i64 qs,.int .i8 qz] rfl rfl _ (nN 1 a 0 k s p out za 0 W1 n1 c1 B1 n2 c2 0 0 0 0 0 0 0 0) (nN 1 a 0 k s p out za 0 W1 n1 c1 B1 n2 c2 qm qs qz 0 0 0 0 0) BM12 (by simp) (by kernel_rfl) (by simp [Value.oneCell']) rfl ?_;intro w13 BM13 g13;have BN13:=(hS.2.2.2.1).away g13 (by omega);refine hK.out _ _ ⟨BN13.cell 7,BN13.cell 17,BN13.cell 18,BN13,(hS.2.2.2.2).grown g13 (hS.2.2.2.2).size (fun k h=>by have:=Option.some.inj h;omega)⟩ (fun hS=>?_))
 clear hK K
 try simp only [pX]
 refine kH 12 rfl hS ?_
 try simp only [pX]
 refine rH 13 rfl (fun K hK=>?_)
 (rw [if_pos (by rfl)];refine oper_store_one 83 (.tmp 93) (.tmp 88) rfl w3.heap.size 17 (.int .i8 lo) rfl rfl rfl rfl _ (nN 1 a 0 k s p out za 0 W1 n1 c1 B1 n2 c2 qm qs qz 0 0 0 0 0) (nN 1 a 0 k s p out za 0 W1 n1 c1 B1 n2 c2 qm qs qz 0 0 0 lo 0) BM13 (by simp) (by kernel_rfl) rfl ?_;intro w14 BM14 g14;have BN14:=(hS.2.2.2.1).away g14 (by omega);refine hK.out _ _ ⟨BN14.cell 7,BN14.cell 17,BN14.cell 18,BN14,(hS.2.2.2.2).grown g14 (hS.2.2.2.2).size (fun k h=>by have:=Option.some.inj h;omega)⟩ (fun hS=>?_))
 clear hK K
 try simp only [pX]
 refine kH 14 rfl hS ?_
 try simp only [pX]
 refine rH 15 rfl (fun K hK=>?_)
 (rw [if_pos (by rfl)];refine oper_store_one 83 (.tmp 94) (.tmp 90) rfl w3.heap.size 18 (.int .i8 hi) rfl rfl rfl rfl _ (nN 1 a 0 k s p out za 0 W1 n1 c1 B1 n2 c2 qm qs qz 0 0 0 lo 0) (nN 1 a 0 k s p out za 0 W1 n1 c1 B1 n2 c2 qm qs qz 0 0 0 lo hi) BM14 (by simp) (by kernel_rfl) rfl ?_;intro w15 BM15 g15;have BN15:=(hS.2.2.2.1).away g15 (by omega);refine hK.out _ _ ⟨BN15.cell 7,BN15.cell 17,BN15.cell 18,BN15,(hS.2.2.2.2).grown g15 (hS.2.2.2.2).size (fun k h=>by have:=Option.some.inj h;omega)⟩ (fun hS=>?_))
 clear hK K
 try simp only [pX]
 refine wpAnyH_done (by kernel_rfl) ?_ _
 replace FR:=zH (Far.mk (hS.2.2.2.2))
 replace BN:=zH (hS.2.2.2.1)
 clear hS BN12 BN13 BN14 BN15
 replace BR:=zH (BR.out.draw)
 replace NW:=zH (NW.out.draw)
 replace NB:=zH (NB.out.draw)
 replace BR:=zH (BR.out.away g12 (by omega))
 replace NW:=zH (NW.out.away g12 (by omega))
 replace NB:=zH (NB.out.away g12 (by omega))
 clear g12
 replace BR:=zH (BR.out.away g13 (by omega))
 replace NW:=zH (NW.out.away g13 (by omega))
 replace NB:=zH (NB.out.away g13 (by omega))
 clear g13
 replace BR:=zH (BR.out.away g14 (by omega))
 replace NW:=zH (NW.out.away g14 (by omega))
 replace NB:=zH (NB.out.away g14 (by omega))
 clear g14
 replace BR:=zH (BR.out.away g15 (by omega))
 replace NW:=zH (NW.out.away g15 (by omega))
 replace NB:=zH (NB.out.away g15 (by omega))
 clear g15
 clear BM12
 clear BM13
 clear BM14
 go_wp2_with (first
  | (refine lB 87 (.tmp 3) w3.heap.size BM15 Tryz.underlying87 ?_)
  | (refine sB 87 (.tmp 2) (.tmp 95) w1.heap.size (nN 1 a 0 k s p out za 0 W1 n1 c1 B1 n2 c2 qm qs qz 0 0 0 lo hi) BR.out ?_;intro wz BZ gz))
 replace FR:=zH (FR.out.away gz (by have:=lr0.out;omega))
 replace NW:=zH (NW.out.away gz (by omega))
 replace NB:=zH (NB.out.away gz (by omega))
 refine ret_cell rfl BZ rfl Tryz.underlying87 (by kernel_rfl) rfl ⟨W1,n1,c1,B1,n2,c2,rfl,NW.out.out.more (fun x hx=>⟨by have:=hx.1;omega,hx.2⟩),NB.out.out.more (fun x hx=>⟨by have:=hx.1;omega,hx.2⟩),FR.out.out⟩
set_option maxHeartbeats 8000000 in
theorem plain_2 (a b k s p out za zb qm qs qz rm rs rz lo hi:Int) (wl bl:List Int) (W:Option Addr) (nw cw:Nat) (B:Option Addr) (nb cb:Nat) (w:World) (hw:Sl (tInt .i8) w (blo w.heap.size) W nw cw wl) (hb:Sl (tInt .i32) w (blo w.heap.size) B nb cb bl) (mw:nw≤1048576) (mb:nb≤1048576) :
  Calls Tryz.prog 140 #[.agg (nN 2 a b k s p out za zb W nw cw B nb cb qm qs qz rm rs rz lo hi)] w (RetNode ⟨2,a,0,k,s,p,0,za,0,wl,bl,qm,qs,qz,0,0,0,lo,hi⟩ w):=by
 have HW:=zH (Old.now hw)
 have HB:=zH (Old.now hb)
 clear hw hb
 have SC:=zH (fun w=>scaledK_any 2 w)
 rw [show scaledK 2=true from rfl] at SC
 have NM:=zH (fun w=>kname_any 2 w)
 have FR:=zH (Far.refl w)
 obtain ⟨w1,hw_w1,BN,k_w1⟩:=nB w (nN 2 a b k s p out za zb W nw cw B nb cb qm qs qz rm rs rz lo hi) 87
 replace FR:=zH (FR.out.fut k_w1)
 replace HW:=zH (HW.out.fut k_w1)
 replace HB:=zH (HB.out.fut k_w1)
 clear k_w1
 obtain ⟨w2,hw_w2,BR,k_w2⟩:=nB w1 (nN 0 0 0 0 0 0 0 0 0 none 0 0 none 0 0 0 0 0 0 0 0 0 0) 87
 replace FR:=zH (FR.out.fut k_w2)
 replace HW:=zH (HW.out.fut k_w2)
 replace HB:=zH (HB.out.fut k_w2)
 replace BN:=zH (BN.out.fut k_w2)
 clear k_w2
 have cN0:=BN.out.cell 0
 have cN1:=BN.out.cell 1
 go_enter Tryz.func140,Tryz.ntmps140
 go_wp2_with fail
 have lr0:=zH (show w.heap.size≤w1.heap.size by rw [← hw_w1];simp)
 clear hw_w1 hw_w2
 refine (NM.out _).mono ?_
 rintro e w3 ⟨rfl,hb⟩
 have tn:(nameOf 2).toList.isEmpty=false:=by rw [ByteArray.toList_eq];rfl
 clear cN0 cN1
 replace FR:=zH (FR.out.fut hb)
 replace HW:=zH (HW.out.fut hb)
 replace HB:=zH (HB.out.fut hb)
 replace BN:=zH (BN.out.fut hb)
 replace BR:=zH (BR.out.fut hb)
 clear hb
 have ln:w.heap.size < w3.heap.size:=BN.out.lt
 have lr:w1.heap.size < w3.heap.size:=BR.out.lt
 have cN0:=BN.out.cell 0
 have cN1:=BN.out.cell 1
 obtain ⟨w4,hw_w4,BM,k_w4⟩:=nB w3 (nN 0 0 0 0 0 0 0 0 0 none 0 0 none 0 0 0 0 0 0 0 0 0 0) 87
 replace FR:=zH (FR.out.fut k_w4)
 replace HW:=zH (HW.out.fut k_w4)
 replace HB:=zH (HB.out.fut k_w4)
 replace BN:=zH (BN.out.fut k_w4)
 replace BR:=zH (BR.out.fut k_w4)
 clear k_w4
 go_wp2_with (refine sB 87 (.tmp 3) (.tmp 13) w3.heap.size (nN 2 a 0 0 0 0 0 0 0 none 0 0 none 0 0 0 0 0 0 0 0 0 0) BM.out ?_;intro w5 BM5 g5;have cM0:=(BN.out.away g5 (by omega)).cell 0)
 clear hw_w4 cM0
 clear cN0 cN1
 replace FR:=zH (FR.out.away g5 (by omega))
 replace HW:=zH (HW.out.away g5 (by omega))
 replace HB:=zH (HB.out.away g5 (by omega))
 replace BN:=zH (BN.out.away g5 (by omega))
 replace BR:=zH (BR.out.away g5 (by omega))
 clear g5
 have lm:w3.heap.size < w5.heap.size:=BM5.lt
 refine wp_region_held_drew (S:=fun w'=>w'.cell? ⟨w.heap.size,9,none⟩=some (.slice W nw cw)∧w'.cell? ⟨w.heap.size,10,none⟩=some (.slice B nb cb)∧Blk w' w.heap.size 87 (nN 2 a b k s p out za zb W nw cw B nb cb qm qs qz rm rs rz lo hi)∧Below w.heap.size w w') (by kernel_rfl) ?_ (fun hS=>?_)
 ·exact ⟨BN.out.drew.cell 9,BN.out.drew.cell 10,BN.out.drew,FR.out.out.drew⟩
 refine kH 0 rfl hS ?_
 try simp only [pX]
 refine kH 1 rfl hS ?_
 try simp only [pX]
 refine kH 3 rfl hS ?_
 try simp only [pX]
 refine kH 4 rfl hS ?_
 try simp only [pX]
 refine rH 2 rfl (fun K hK=>?_)
 go_simp
 refine (clone8_any W nw cw wl _ (HW.out.fut (Below.refl _ _).drew).all (by omega)).mono ?_;rintro e wa ⟨W1,n1,c1,rfl,hs,hb⟩;have SA:=zH hs;have KA:=zH (below_call (Below.refl _ _).drew hb (Nat.le_refl _));clear hs
 refine hK.out _ _ ?_ (fun hS=>?_)
 ·exact ⟨(by first|exact cell_later hb hS.1|exact Blk.later hS.1 hb),(by first|exact cell_later hb hS.2.1|exact Blk.later hS.2.1 hb),(by first|exact cell_later hb hS.2.2.1|exact Blk.later hS.2.2.1 hb),below_later hb hS.2.2.2⟩
 clear hK K
 try simp only [pX]
 refine kH 6 rfl hS ?_
 try simp only [pX]
 refine rH 5 rfl (fun K hK=>?_)
 go_simp
 refine (clone32_any B nb cb bl _ (HB.out.fut KA.out).all (by omega)).mono ?_;rintro e wb ⟨B1,n2,c2,rfl,hs,hb⟩;have SB:=zH hs;have KAB:=zH hb;have KB:=zH (below_call KA.out hb KA.out.size);clear hs;have BMb:=zH (BM5.later KB.out)
 refine hK.out _ _ ?_ (fun hS=>?_)
 ·exact ⟨(by first|exact cell_later hb hS.1|exact Blk.later hS.1 hb),(by first|exact cell_later hb hS.2.1|exact Blk.later hS.2.1 hb),(by first|exact cell_later hb hS.2.2.1|exact Blk.later hS.2.2.1 hb),below_later hb hS.2.2.2⟩
 clear hK K
 try simp only [pX]
 refine rH 7 rfl (fun K hK=>?_)
 (rw [if_pos (by rfl)];refine oper_store_one 44 (.tmp 38) (.tmp 34) rfl w3.heap.size 9 (.slice W1 n1 c1) rfl rfl rfl rfl _ (nN 2 a 0 0 0 0 0 0 0 none 0 0 none 0 0 0 0 0 0 0 0 0 0) (nN 2 a 0 0 0 0 0 0 0 W1 n1 c1 none 0 0 0 0 0 0 0 0 0 0) BMb.out (by simp) (by kernel_rfl) rfl ?_;intro w6 BM6 g6;have BN6:=(hS.2.2.1).away g6 (by omega);refine hK.out _ _ ⟨BN6.cell 9,BN6.cell 10,BN6,(hS.2.2.2).grown g6 (hS.2.2.2).size (fun k h=>by have:=Option.some.inj h;omega)⟩ (fun hS=>?_))
 clear hK K
 try simp only [pX]
 refine kH 8 rfl hS ?_
 try simp only [pX]
 refine rH 9 rfl (fun K hK=>?_)
 (rw [if_pos (by rfl)];refine oper_store_one 45 (.tmp 39) (.tmp 37) rfl w3.heap.size 10 (.slice B1 n2 c2) rfl rfl rfl rfl _ (nN 2 a 0 0 0 0 0 0 0 W1 n1 c1 none 0 0 0 0 0 0 0 0 0 0) (nN 2 a 0 0 0 0 0 0 0 W1 n1 c1 B1 n2 c2 0 0 0 0 0 0 0 0) BM6 (by simp) (by kernel_rfl) rfl ?_;intro w7 BM7 g7;have BN7:=(hS.2.2.1).away g7 (by omega);refine hK.out _ _ ⟨BN7.cell 9,BN7.cell 10,BN7,(hS.2.2.2).grown g7 (hS.2.2.2).size (fun k h=>by have:=Option.some.inj h;omega)⟩ (fun hS=>?_))
 clear hK K
 try simp only [pX]
 refine wpAnyH_done (by kernel_rfl) ?_ _
 replace FR:=zH (Far.mk (hS.2.2.2))
 replace BN:=zH (hS.2.2.1)
 clear hS BN6 BN7
 have NW:=zH (New.mk (w0:=w5) ((SA.out.below KAB.out (fun _ h=>h.2)).more (fun x hx=>⟨hx.1,Nat.lt_of_lt_of_le hx.2 KAB.out.size⟩)))
 have NB:=zH (New.mk (w0:=w5) (SB.out.more (fun x hx=>⟨Nat.le_trans (show w5.heap.size≤wa.heap.size from KA.out.size) hx.1,hx.2⟩)))
 replace BR:=zH (BR.out.fut KB.out)
 clear SA SB KAB KA hb KB HW HB BMb BM5
 replace BR:=zH (BR.out.away g6 (by omega))
 replace NW:=zH (NW.out.away g6 (by omega))
 replace NB:=zH (NB.out.away g6 (by omega))
 clear g6
 replace BR:=zH (BR.out.away g7 (by omega))
 replace NW:=zH (NW.out.away g7 (by omega))
 replace NB:=zH (NB.out.away g7 (by omega))
 clear g7
 clear BM6
 go_wp2_with fail
 refine wp_region_held_drew (S:=fun w'=>w'.cell? ⟨w.heap.size,3,none⟩=some (.int .i64 k)∧w'.cell? ⟨w.heap.size,4,none⟩=some (.int .i64 s)∧w'.cell? ⟨w.heap.size,5,none⟩=some (.int .i64 p)∧Blk w' w.heap.size 87 (nN 2 a b k s p out za zb W nw cw B nb cb qm qs qz rm rs rz lo hi)∧Below w.heap.size w w') (by kernel_rfl) ?_ (fun hS=>?_)
 ·exact ⟨BN.out.drew.cell 3,BN.out.drew.cell 4,BN.out.drew.cell 5,BN.out.drew,FR.out.out.drew⟩
 refine kH 0 rfl hS ?_
 try simp only [pX]
 refine kH 1 rfl hS ?_
 try simp only [pX]
 refine kH 2 rfl hS ?_
 try simp only [pX]
 refine kH 3 rfl hS ?_
 try simp only [pX]
 refine kH 4 rfl hS ?_
 try simp only [pX]
 refine kH 5 rfl hS ?_
 try simp only [pX]
 refine kH 6 rfl hS ?_
 try simp only [pX]
 refine rH 7 rfl (fun K hK=>?_)
 (rw [if_pos (by rfl)];refine oper_store_one 3 (.tmp 46) (.tmp 41) rfl w3.heap.size 3 (.int .i64 k) rfl rfl rfl rfl _ (nN 2 a 0 0 0 0 0 0 0 W1 n1 c1 B1 n2 c2 0 0 0 0 0 0 0 0) (nN 2 a 0 k 0 0 0 0 0 W1 n1 c1 B1 n2 c2 0 0 0 0 0 0 0 0) BM7.drew (by simp) (by kernel_rfl) rfl ?_;intro w8 BM8 g8;have BN8:=(hS.2.2.2.1).away g8 (by omega);refine hK.out _ _ ⟨BN8.cell 3,BN8.cell 4,BN8.cell 5,BN8,(hS.2.2.2.2).grown g8 (hS.2.2.2.2).size (fun k h=>by have:=Option.some.inj h;omega)⟩ (fun hS=>?_))
 clear hK K
 try simp only [pX]
 refine kH 8 rfl hS ?_
 try simp only [pX]
 refine rH 9 rfl (fun K hK=>?_)
 (rw [if_pos (by rfl)];refine oper_store_one 3 (.tmp 47) (.tmp 43) rfl w3.heap.size 4 (.int .i64 s) rfl rfl rfl rfl _ (nN 2 a 0 k 0 0 0 0 0 W1 n1 c1 B1 n2 c2 0 0 0 0 0 0 0 0) (nN 2 a 0 k s 0 0 0 0 W1 n1 c1 B1 n2 c2 0 0 0 0 0 0 0 0) BM8 (by simp) (by kernel_rfl) rfl ?_;intro w9 BM9 g9;have BN9:=(hS.2.2.2.1).away g9 (by omega);refine hK.out _ _ ⟨BN9.cell 3,BN9.cell 4,BN9.cell 5,BN9,(hS.2.2.2.2).grown g9 (hS.2.2.2.2).size (fun k h=>by have:=Option.some.inj h;omega)⟩ (fun hS=>?_))
 clear hK K
 try simp only [pX]
 refine kH 10 rfl hS ?_
 try simp only [pX]
 refine rH 11 rfl (fun K hK=>?_)
 (rw [if_pos (by rfl)];refine oper_store_one 3 (.tmp 48) (.tmp 45) rfl w3.heap.size 5 (.int .i64 p) rfl rfl rfl rfl _ (nN 2 a 0 k s 0 0 0 0 W1 n1 c1 B1 n2 c2 0 0 0 0 0 0 0 0) (nN 2 a 0 k s p 0 0 0 W1 n1 c1 B1 n2 c2 0 0 0 0 0 0 0 0) BM9 (by simp) (by kernel_rfl) rfl ?_;intro w10 BM10 g10;have BN10:=(hS.2.2.2.1).away g10 (by omega);refine hK.out _ _ ⟨BN10.cell 3,BN10.cell 4,BN10.cell 5,BN10,(hS.2.2.2.2).grown g10 (hS.2.2.2.2).size (fun k h=>by have:=Option.some.inj h;omega)⟩ (fun hS=>?_))
 clear hK K
 try simp only [pX]
 refine wpAnyH_done (by kernel_rfl) ?_ _
 replace FR:=zH (Far.mk (hS.2.2.2.2))
 replace BN:=zH (hS.2.2.2.1)
 clear hS BN8 BN9 BN10
 replace BR:=zH (BR.out.draw)
 replace NW:=zH (NW.out.draw)
 replace NB:=zH (NB.out.draw)
 replace BR:=zH (BR.out.away g8 (by omega))
 replace NW:=zH (NW.out.away g8 (by omega))
 replace NB:=zH (NB.out.away g8 (by omega))
 clear g8
 replace BR:=zH (BR.out.away g9 (by omega))
 replace NW:=zH (NW.out.away g9 (by omega))
 replace NB:=zH (NB.out.away g9 (by omega))
 clear g9
 replace BR:=zH (BR.out.away g10 (by omega))
 replace NW:=zH (NW.out.away g10 (by omega))
 replace NB:=zH (NB.out.away g10 (by omega))
 clear g10
 clear BM8
 clear BM9
 have cN0:=BN.out.cell 0
 go_wp2_with (go_at_call 141;refine (SC.out _).mono ?_;rintro e w' ⟨rfl,rfl⟩)
 clear cN0
 refine wp_region_held_drew (S:=fun w'=>w'.cell? ⟨w.heap.size,7,none⟩=some (.int .i8 za)∧w'.cell? ⟨w.heap.size,17,none⟩=some (.int .i8 lo)∧w'.cell? ⟨w.heap.size,18,none⟩=some (.int .i8 hi)∧Blk w' w.heap.size 87 (nN 2 a b k s p out za zb W nw cw B nb cb qm qs qz rm rs rz lo hi)∧Below w.heap.size w w') (by kernel_rfl) ?_ (fun hS=>?_)
 ·exact ⟨BN.out.drew.cell 7,BN.out.drew.cell 17,BN.out.drew.cell 18,BN.out.drew,FR.out.out.drew⟩
 refine kH 0 rfl hS ?_
 try simp only [pX]
 refine kH 1 rfl hS ?_
 try simp only [pX]
 refine kH 2 rfl hS ?_
 try simp only [pX]
 refine tkH 3 rfl (yieldsIf_load_blk (by rfl) 85 (.tmp 85) rfl w.heap.size 11 rfl _ _ #[.int .i32 qm,.int .i64 qs,.int .i8 qz] _ (fun w hs=>hs.2.2.2.1) Tryz.underlying85 rfl (by kernel_rfl) rfl) hS ?_
 try simp only [pX]
 refine kH 4 rfl hS ?_
 try simp only [pX]
 refine kH 5 rfl hS ?_
 try simp only [pX]
 refine kH 6 rfl hS ?_
 try simp only [pX]
 refine kH 7 rfl hS ?_
 try simp only [pX]
 refine kH 8 rfl hS ?_
 try simp only [pX]
 refine rH 9 rfl (fun K hK=>?_)
 (rw [if_pos (by rfl)];refine oper_store_one 83 (.tmp 91) (.tmp 84) rfl w3.heap.size 7 (.int .i8 za) rfl rfl rfl rfl _ (nN 2 a 0 k s p 0 0 0 W1 n1 c1 B1 n2 c2 0 0 0 0 0 0 0 0) (nN 2 a 0 k s p 0 za 0 W1 n1 c1 B1 n2 c2 0 0 0 0 0 0 0 0) BM10.drew (by simp) (by kernel_rfl) rfl ?_;intro w11 BM11 g11;have BN11:=(hS.2.2.2.1).away g11 (by omega);refine hK.out _ _ ⟨BN11.cell 7,BN11.cell 17,BN11.cell 18,BN11,(hS.2.2.2.2).grown g11 (hS.2.2.2.2).size (fun k h=>by have:=Option.some.inj h;omega)⟩ (fun hS=>?_))
 clear hK K
 try simp only [pX]
 refine kH 10 rfl hS ?_
 try simp only [pX]
 refine rH 11 rfl (fun K hK=>?_)
 (rw [if_pos (by rfl)];refine oper_store_blk 85 (.tmp 92) (.tmp 86) rfl w3.heap.size 11 #[.int .i32 qm,.int .i64 qs,.int .i8 qz] rfl rfl _ (nN 2 a 0 k s p 0 za 0 W1 n1 c1 B1 n2 c2 0 0 0 0 0 0 0 0) (nN 2 a 0 k s p 0 za 0 W1 n1 c1 B1 n2 c2 qm qs qz 0 0 0 0 0) BM11 (by simp) (by kernel_rfl) (by simp [Value.oneCell']) rfl ?_;intro w12 BM12 g12;have BN12:=(hS.2.2.2.1).away g12 (by omega);refine hK.out _ _ ⟨BN12.cell 7,BN12.cell 17,BN12.cell 18,BN12,(hS.2.2.2.2).grown g12 (hS.2.2.2.2).size (fun k h=>by have:=Option.some.inj h;omega)⟩ (fun hS=>?_))
 clear hK K
 try simp only [pX]
 refine kH 12 rfl hS ?_
 try simp only [pX]
 refine rH 13 rfl (fun K hK=>?_)
 (rw [if_pos (by rfl)];refine oper_store_one 83 (.tmp 93) (.tmp 88) rfl w3.heap.size 17 (.int .i8 lo) rfl rfl rfl rfl _ (nN 2 a 0 k s p 0 za 0 W1 n1 c1 B1 n2 c2 qm qs qz 0 0 0 0 0) (nN 2 a 0 k s p 0 za 0 W1 n1 c1 B1 n2 c2 qm qs qz 0 0 0 lo 0) BM12 (by simp) (by kernel_rfl) rfl ?_;intro w13 BM13 g13;have BN13:=(hS.2.2.2.1).away g13 (by omega);refine hK.out _ _ ⟨BN13.cell 7,BN13.cell 17,BN13.cell 18,BN13,(hS.2.2.2.2).grown g13 (hS.2.2.2.2).size (fun k h=>by have:=Option.some.inj h;omega)⟩ (fun hS=>?_))
 clear hK K
 try simp only [pX]
 refine kH 14 rfl hS ?_
 try simp only [pX]
 refine rH 15 rfl (fun K hK=>?_)
 (rw [if_pos (by rfl)];refine oper_store_one 83 (.tmp 94) (.tmp 90) rfl w3.heap.size 18 (.int .i8 hi) rfl rfl rfl rfl _ (nN 2 a 0 k s p 0 za 0 W1 n1 c1 B1 n2 c2 qm qs qz 0 0 0 lo 0) (nN 2 a 0 k s p 0 za 0 W1 n1 c1 B1 n2 c2 qm qs qz 0 0 0 lo hi) BM13 (by simp) (by kernel_rfl) rfl ?_;intro w14 BM14 g14;have BN14:=(hS.2.2.2.1).away g14 (by omega);refine hK.out _ _ ⟨BN14.cell 7,BN14.cell 17,BN14.cell 18,BN14,(hS.2.2.2.2).grown g14 (hS.2.2.2.2).size (fun k h=>by have:=Option.some.inj h;omega)⟩ (fun hS=>?_))
 clear hK K
 try simp only [pX]
 refine wpAnyH_done (by kernel_rfl) ?_ _
 replace FR:=zH (Far.mk (hS.2.2.2.2))
 replace BN:=zH (hS.2.2.2.1)
 clear hS BN11 BN12 BN13 BN14
 replace BR:=zH (BR.out.draw)
 replace NW:=zH (NW.out.draw)
 replace NB:=zH (NB.out.draw)
 replace BR:=zH (BR.out.away g11 (by omega))
 replace NW:=zH (NW.out.away g11 (by omega))
 replace NB:=zH (NB.out.away g11 (by omega))
 clear g11
 replace BR:=zH (BR.out.away g12 (by omega))
 replace NW:=zH (NW.out.away g12 (by omega))
 replace NB:=zH (NB.out.away g12 (by omega))
 clear g12
 replace BR:=zH (BR.out.away g13 (by omega))
 replace NW:=zH (NW.out.away g13 (by omega))
 replace NB:=zH (NB.out.away g13 (by omega))
 clear g13
 replace BR:=zH (BR.out.away g14 (by omega))
 replace NW:=zH (NW.out.away g14 (by omega))
 replace NB:=zH (NB.out.away g14 (by omega))
 clear g14
 clear BM11
 clear BM12
 clear BM13
 go_wp2_with (first
  | (refine lB 87 (.tmp 3) w3.heap.size BM14 Tryz.underlying87 ?_)
  | (refine sB 87 (.tmp 2) (.tmp 95) w1.heap.size (nN 2 a 0 k s p 0 za 0 W1 n1 c1 B1 n2 c2 qm qs qz 0 0 0 lo hi) BR.out ?_;intro wz BZ gz))
 replace FR:=zH (FR.out.away gz (by have:=lr0.out;omega))
 replace NW:=zH (NW.out.away gz (by omega))
 replace NB:=zH (NB.out.away gz (by omega))
 refine ret_cell rfl BZ rfl Tryz.underlying87 (by kernel_rfl) rfl ⟨W1,n1,c1,B1,n2,c2,rfl,NW.out.out.more (fun x hx=>⟨by have:=hx.1;omega,hx.2⟩),NB.out.out.more (fun x hx=>⟨by have:=hx.1;omega,hx.2⟩),FR.out.out⟩
end Go.Proofs.YtppcjcigekoipaaGreat
