/-
  What a node's kind tells (layer 25): kinds.Plain, some of the kinds.
  The shape that a node makes (layers 18, 25): kinds.plainShape.
-/
import Derived.Test.YtppcjcigekoipaaGreatJ21
set_option linter.unusedVariables false
set_option linter.unusedSimpArgs false
namespace Go.Proofs.YtppcjcigekoipaaGreat
open Go.RowKit Go.ChangeShapes Go.WideShapes
set_option maxRecDepth 100000
set_option maxHeartbeats 8000000 in
theorem plain_6 (a b k s p out za zb qm qs qz rm rs rz lo hi:Int) (wl bl:List Int) (W:Option Addr) (nw cw:Nat) (B:Option Addr) (nb cb:Nat) (w:World) (hw:Sl (tInt .i8) w (blo w.heap.size) W nw cw wl) (hb:Sl (tInt .i32) w (blo w.heap.size) B nb cb bl) (mw:nw≤1048576) (mb:nb≤1048576) :
  Calls Tryz.prog 140 #[.agg (nN 6 a b k s p out za zb W nw cw B nb cb qm qs qz rm rs rz lo hi)] w (RetNode ⟨6,a,b,0,0,0,0,za,zb,[],[],qm,qs,qz,rm,rs,0,lo,hi⟩ w):=by
 have HW:=zH (Old.now hw)
 have HB:=zH (Old.now hb)
 clear hw hb
 have SC:=zH (fun w=>scaledK_any 6 w)
 rw [show scaledK 6=true from rfl] at SC
 have NM:=zH (fun w=>kname_any 6 w)
 have FR:=zH (Far.refl w)
 obtain ⟨w1,hw_w1,BN,k_w1⟩:=nB w (nN 6 a b k s p out za zb W nw cw B nb cb qm qs qz rm rs rz lo hi) 87
 replace FR:=zH (FR.out.fut k_w1)
 replace HW:=zH (HW.out.fut k_w1)
 replace HB:=zH (HB.out.fut k_w1)
 clear k_w1
 obtain ⟨w2,hw_w2,BR,k_w2⟩:=nB w1 (nN 0 0 0 0 0 0 0 0 0 none 0 0 none 0 0 0 0 0 0 0 0 0 0) 87
 replace FR:=zH (FR.out.fut k_w2)
 replace HW:=zH (HW.out.fut k_w2)
 replace HB:=zH (HB.out.fut k_w2)
 replace BN:=zH (BN.out.fut k_w2)
 clear k_w2
 have cN0:=BN.out.cell 0
 have cN1:=BN.out.cell 1
 go_enter Tryz.func140,Tryz.ntmps140
 go_wp2_with fail
 have lr0:=zH (show w.heap.size≤w1.heap.size by rw [← hw_w1];simp)
 clear hw_w1 hw_w2
 refine (NM.out _).mono ?_
 rintro e w3 ⟨rfl,hb⟩
 have tn:(nameOf 6).toList.isEmpty=false:=by rw [ByteArray.toList_eq];rfl
 clear cN0 cN1
 replace FR:=zH (FR.out.fut hb)
 replace HW:=zH (HW.out.fut hb)
 replace HB:=zH (HB.out.fut hb)
 replace BN:=zH (BN.out.fut hb)
 replace BR:=zH (BR.out.fut hb)
 clear hb
 have ln:w.heap.size < w3.heap.size:=BN.out.lt
 have lr:w1.heap.size < w3.heap.size:=BR.out.lt
 have cN0:=BN.out.cell 0
 have cN1:=BN.out.cell 1
 obtain ⟨w4,hw_w4,BM,k_w4⟩:=nB w3 (nN 0 0 0 0 0 0 0 0 0 none 0 0 none 0 0 0 0 0 0 0 0 0 0) 87
 replace FR:=zH (FR.out.fut k_w4)
 replace HW:=zH (HW.out.fut k_w4)
 replace HB:=zH (HB.out.fut k_w4)
 replace BN:=zH (BN.out.fut k_w4)
 replace BR:=zH (BR.out.fut k_w4)
 clear k_w4
 go_wp2_with (refine sB 87 (.tmp 3) (.tmp 13) w3.heap.size (nN 6 a 0 0 0 0 0 0 0 none 0 0 none 0 0 0 0 0 0 0 0 0 0) BM.out ?_;intro w5 BM5 g5;have cM0:=(BN.out.away g5 (by omega)).cell 0)
 clear hw_w4 cM0
 clear cN0 cN1
 replace FR:=zH (FR.out.away g5 (by omega))
 replace HW:=zH (HW.out.away g5 (by omega))
 replace HB:=zH (HB.out.away g5 (by omega))
 replace BN:=zH (BN.out.away g5 (by omega))
 replace BR:=zH (BR.out.away g5 (by omega))
 clear g5
 refine wp_region_held_drew (S:=fun w'=>w'.cell? ⟨w.heap.size,2,none⟩=some (.int .i64 b)∧w'.cell? ⟨w.heap.size,8,none⟩=some (.int .i8 zb)∧w'.cell? ⟨w.heap.size,14,none⟩=some (.int .i32 rm)∧w'.cell? ⟨w.heap.size,15,none⟩=some (.int .i64 rs)∧Blk w' w.heap.size 87 (nN 6 a b k s p out za zb W nw cw B nb cb qm qs qz rm rs rz lo hi)∧Below w.heap.size w w') (by kernel_rfl) ?_ (fun hS=>?_)
 ·exact ⟨BN.out.drew.cell 2,BN.out.drew.cell 8,BN.out.drew.cell 14,BN.out.drew.cell 15,BN.out.drew,FR.out.out.drew⟩
 refine kH 0 rfl hS ?_
 try simp only [pX]
 refine kH 1 rfl hS ?_
 try simp only [pX]
 refine kH 2 rfl hS ?_
 try simp only [pX]
 refine kH 3 rfl hS ?_
 try simp only [pX]
 refine kH 4 rfl hS ?_
 try simp only [pX]
 refine kH 5 rfl hS ?_
 try simp only [pX]
 refine kH 6 rfl hS ?_
 try simp only [pX]
 refine kH 7 rfl hS ?_
 try simp only [pX]
 refine kH 8 rfl hS ?_
 try simp only [pX]
 refine kH 9 rfl hS ?_
 try simp only [pX]
 refine kH 10 rfl hS ?_
 try simp only [pX]
 refine kH 11 rfl hS ?_
 try simp only [pX]
 refine rH 12 rfl (fun K hK=>?_)
 (rw [if_pos (by rfl)];refine oper_store_one 3 (.tmp 71) (.tmp 61) rfl w3.heap.size 2 (.int .i64 b) rfl rfl rfl rfl _ (nN 6 a 0 0 0 0 0 0 0 none 0 0 none 0 0 0 0 0 0 0 0 0 0) (nN 6 a b 0 0 0 0 0 0 none 0 0 none 0 0 0 0 0 0 0 0 0 0) BM5.drew (by simp) (by kernel_rfl) rfl ?_;intro w6 BM6 g6;have BN6:=(hS.2.2.2.2.1).away g6 (by omega);refine hK.out _ _ ⟨BN6.cell 2,BN6.cell 8,BN6.cell 14,BN6.cell 15,BN6,(hS.2.2.2.2.2).grown g6 (hS.2.2.2.2.2).size (fun k h=>by have:=Option.some.inj h;omega)⟩ (fun hS=>?_))
 clear hK K
 try simp only [pX]
 refine kH 13 rfl hS ?_
 try simp only [pX]
 refine rH 14 rfl (fun K hK=>?_)
 (rw [if_pos (by rfl)];refine oper_store_one 83 (.tmp 72) (.tmp 63) rfl w3.heap.size 8 (.int .i8 zb) rfl rfl rfl rfl _ (nN 6 a b 0 0 0 0 0 0 none 0 0 none 0 0 0 0 0 0 0 0 0 0) (nN 6 a b 0 0 0 0 0 zb none 0 0 none 0 0 0 0 0 0 0 0 0 0) BM6 (by simp) (by kernel_rfl) rfl ?_;intro w7 BM7 g7;have BN7:=(hS.2.2.2.2.1).away g7 (by omega);refine hK.out _ _ ⟨BN7.cell 2,BN7.cell 8,BN7.cell 14,BN7.cell 15,BN7,(hS.2.2.2.2.2).grown g7 (hS.2.2.2.2.2).size (fun k h=>by have:=Option.some.inj h;omega)⟩ (fun hS=>?_))
 clear hK K
 try simp only [pX]
 refine kH 15 rfl hS ?_
 try simp only [pX]
 refine rH 16 rfl (fun K hK=>?_)
 (rw [if_pos (by rfl)];refine oper_store_blk 85 (.tmp 73) (.tmp 70) rfl w3.heap.size 14 #[.int .i32 rm,.int .i64 rs,.int .i8 0] rfl rfl _ (nN 6 a b 0 0 0 0 0 zb none 0 0 none 0 0 0 0 0 0 0 0 0 0) (nN 6 a b 0 0 0 0 0 zb none 0 0 none 0 0 0 0 0 rm rs 0 0 0) BM7 (by simp) (by kernel_rfl) (by simp [Value.oneCell']) rfl ?_;intro w8 BM8 g8;have BN8:=(hS.2.2.2.2.1).away g8 (by omega);refine hK.out _ _ ⟨BN8.cell 2,BN8.cell 8,BN8.cell 14,BN8.cell 15,BN8,(hS.2.2.2.2.2).grown g8 (hS.2.2.2.2.2).size (fun k h=>by have:=Option.some.inj h;omega)⟩ (fun hS=>?_))
 clear hK K
 try simp only [pX]
 refine wpAnyH_done (by kernel_rfl) ?_ _
 replace FR:=zH (Far.mk (hS.2.2.2.2.2))
 replace BN:=zH (hS.2.2.2.2.1)
 clear hS BN6 BN7 BN8
 replace HW:=zH (HW.out.draw)
 replace HB:=zH (HB.out.draw)
 replace BR:=zH (BR.out.draw)
 replace HW:=zH (HW.out.away g6 (by omega))
 replace HB:=zH (HB.out.away g6 (by omega))
 replace BR:=zH (BR.out.away g6 (by omega))
 clear g6
 replace HW:=zH (HW.out.away g7 (by omega))
 replace HB:=zH (HB.out.away g7 (by omega))
 replace BR:=zH (BR.out.away g7 (by omega))
 clear g7
 replace HW:=zH (HW.out.away g8 (by omega))
 replace HB:=zH (HB.out.away g8 (by omega))
 replace BR:=zH (BR.out.away g8 (by omega))
 clear g8
 clear BM6
 clear BM7
 have cN0:=BN.out.cell 0
 go_wp2_with (go_at_call 141;refine (SC.out _).mono ?_;rintro e w' ⟨rfl,rfl⟩)
 clear cN0
 refine wp_region_held_drew (S:=fun w'=>w'.cell? ⟨w.heap.size,7,none⟩=some (.int .i8 za)∧w'.cell? ⟨w.heap.size,17,none⟩=some (.int .i8 lo)∧w'.cell? ⟨w.heap.size,18,none⟩=some (.int .i8 hi)∧Blk w' w.heap.size 87 (nN 6 a b k s p out za zb W nw cw B nb cb qm qs qz rm rs rz lo hi)∧Below w.heap.size w w') (by kernel_rfl) ?_ (fun hS=>?_)
 ·exact ⟨BN.out.drew.cell 7,BN.out.drew.cell 17,BN.out.drew.cell 18,BN.out.drew,FR.out.out.drew⟩
 refine kH 0 rfl hS ?_
 try simp only [pX]
 refine kH 1 rfl hS ?_
 try simp only [pX]
 refine kH 2 rfl hS ?_
 try simp only [pX]
 refine tkH 3 rfl (yieldsIf_load_blk (by rfl) 85 (.tmp 85) rfl w.heap.size 11 rfl _ _ #[.int .i32 qm,.int .i64 qs,.int .i8 qz] _ (fun w hs=>hs.2.2.2.1) Tryz.underlying85 rfl (by kernel_rfl) rfl) hS ?_
 try simp only [pX]
 refine kH 4 rfl hS ?_
 try simp only [pX]
 refine kH 5 rfl hS ?_
 try simp only [pX]
 refine kH 6 rfl hS ?_
 try simp only [pX]
 refine kH 7 rfl hS ?_
 try simp only [pX]
 refine kH 8 rfl hS ?_
 try simp only [pX]
 refine rH 9 rfl (fun K hK=>?_)
 (rw [if_pos (by rfl)];refine oper_store_one 83 (.tmp 91) (.tmp 84) rfl w3.heap.size 7 (.int .i8 za) rfl rfl rfl rfl _ (nN 6 a b 0 0 0 0 0 zb none 0 0 none 0 0 0 0 0 rm rs 0 0 0) (nN 6 a b 0 0 0 0 za zb none 0 0 none 0 0 0 0 0 rm rs 0 0 0) BM8.drew (by simp) (by kernel_rfl) rfl ?_;intro w9 BM9 g9;have BN9:=(hS.2.2.2.1).away g9 (by omega);refine hK.out _ _ ⟨BN9.cell 7,BN9.cell 17,BN9.cell 18,BN9,(hS.2.2.2.2).grown g9 (hS.2.2.2.2).size (fun k h=>by have:=Option.some.inj h;omega)⟩ (fun hS=>?_))
 clear hK K
 try simp only [pX]
 refine kH 10 rfl hS ?_
 try simp only [pX]
 refine rH 11 rfl (fun K hK=>?_)
 (rw [if_pos (by rfl)];refine oper_store_blk 85 (.tmp 92) (.tmp 86) rfl w3.heap.size 11 #[.int .i32 qm,.int .i64 qs,.int .i8 qz] rfl rfl _ (nN 6 a b 0 0 0 0 za zb none 0 0 none 0 0 0 0 0 rm rs 0 0 0) (nN 6 a b 0 0 0 0 za zb none 0 0 none 0 0 qm qs qz rm rs 0 0 0) BM9 (by simp) (by kernel_rfl) (by simp [Value.oneCell']) rfl ?_;intro w10 BM10 g10;have BN10:=(hS.2.2.2.1).away g10 (by omega);refine hK.out _ _ ⟨BN10.cell 7,BN10.cell 17,BN10.cell 18,BN10,(hS.2.2.2.2).grown g10 (hS.2.2.2.2).size (fun k h=>by have:=Option.some.inj h;omega)⟩ (fun hS=>?_))
 clear hK K
 try simp only [pX]
 refine kH 12 rfl hS ?_
 try simp only [pX]
 refine rH 13 rfl (fun K hK=>?_)
 (rw [if_pos (by rfl)];refine oper_store_one 83 (.tmp 93) (.tmp 88) rfl w3.heap.size 17 (.int .i8 lo) rfl rfl rfl rfl _ (nN 6 a b 0 0 0 0 za zb none 0 0 none 0 0 qm qs qz rm rs 0 0 0) (nN 6 a b 0 0 0 0 za zb none 0 0 none 0 0 qm qs qz rm rs 0 lo 0) BM10 (by simp) (by kernel_rfl) rfl ?_;intro w11 BM11 g11;have BN11:=(hS.2.2.2.1).away g11 (by omega);refine hK.out _ _ ⟨BN11.cell 7,BN11.cell 17,BN11.cell 18,BN11,(hS.2.2.2.2).grown g11 (hS.2.2.2.2).size (fun k h=>by have:=Option.some.inj h;omega)⟩ (fun hS=>?_))
 clear hK K
 try simp only [pX]
 refine kH 14 rfl hS ?_
 try simp only [pX]
 refine rH 15 rfl (fun K hK=>?_)
 (rw [if_pos (by rfl)];refine oper_store_one 83 (.tmp 94) (.tmp 90) rfl w3.heap.size 18 (.int .i8 hi) rfl rfl rfl rfl _ (nN 6 a b 0 0 0 0 za zb none 0 0 none 0 0 qm qs qz rm rs 0 lo 0) (nN 6 a b 0 0 0 0 za zb none 0 0 none 0 0 qm qs qz rm rs 0 lo hi) BM11 (by simp) (by kernel_rfl) rfl ?_;intro w12 BM12 g12;have BN12:=(hS.2.2.2.1).away g12 (by omega);refine hK.out _ _ ⟨BN12.cell 7,BN12.cell 17,BN12.cell 18,BN12,(hS.2.2.2.2).grown g12 (hS.2.2.2.2).size (fun k h=>by have:=Option.some.inj h;omega)⟩ (fun hS=>?_))
 clear hK K
 try simp only [pX]
 refine wpAnyH_done (by kernel_rfl) ?_ _
 replace FR:=zH (Far.mk (hS.2.2.2.2))
 replace BN:=zH (hS.2.2.2.1)
 clear hS BN9 BN10 BN11 BN12
 replace HW:=zH (HW.out.draw)
 replace HB:=zH (HB.out.draw)
 replace BR:=zH (BR.out.draw)
 replace HW:=zH (HW.out.away g9 (by omega))
 replace HB:=zH (HB.out.away g9 (by omega))
 replace BR:=zH (BR.out.away g9 (by omega))
 clear g9
 replace HW:=zH (HW.out.away g10 (by omega))
 replace HB:=zH (HB.out.away g10 (by omega))
 replace BR:=zH (BR.out.away g10 (by omega))
 clear g10
 replace HW:=zH (HW.out.away g11 (by omega))
 replace HB:=zH (HB.out.away g11 (by omega))
 replace BR:=zH (BR.out.away g11 (by omega))
 clear g11
 replace HW:=zH (HW.out.away g12 (by omega))
 replace HB:=zH (HB.out.away g12 (by omega))
 replace BR:=zH (BR.out.away g12 (by omega))
 clear g12
 clear BM9
 clear BM10
 clear BM11
 go_wp2_with (first
  | (refine lB 87 (.tmp 3) w3.heap.size BM12 Tryz.underlying87 ?_)
  | (refine sB 87 (.tmp 2) (.tmp 95) w1.heap.size (nN 6 a b 0 0 0 0 za zb none 0 0 none 0 0 qm qs qz rm rs 0 lo hi) BR.out ?_;intro wz BZ gz))
 replace FR:=zH (FR.out.away gz (by have:=lr0.out;omega))
 refine ret_cell rfl BZ rfl Tryz.underlying87 (by kernel_rfl) rfl ⟨none,0,0,none,0,0,rfl,Sl.nil _ _ _,Sl.nil _ _ _,FR.out.out⟩
set_option maxHeartbeats 8000000 in
theorem plain_7 (a b k s p out za zb qm qs qz rm rs rz lo hi:Int) (wl bl:List Int) (W:Option Addr) (nw cw:Nat) (B:Option Addr) (nb cb:Nat) (w:World) (hw:Sl (tInt .i8) w (blo w.heap.size) W nw cw wl) (hb:Sl (tInt .i32) w (blo w.heap.size) B nb cb bl) (mw:nw≤1048576) (mb:nb≤1048576) :
  Calls Tryz.prog 140 #[.agg (nN 7 a b k s p out za zb W nw cw B nb cb qm qs qz rm rs rz lo hi)] w (RetNode ⟨7,a,0,0,0,0,0,za,0,[],[],qm,qs,qz,0,0,0,lo,hi⟩ w):=by
 have HW:=zH (Old.now hw)
 have HB:=zH (Old.now hb)
 clear hw hb
 have SC:=zH (fun w=>scaledK_any 7 w)
 rw [show scaledK 7=true from rfl] at SC
 have NM:=zH (fun w=>kname_any 7 w)
 have FR:=zH (Far.refl w)
 obtain ⟨w1,hw_w1,BN,k_w1⟩:=nB w (nN 7 a b k s p out za zb W nw cw B nb cb qm qs qz rm rs rz lo hi) 87
 replace FR:=zH (FR.out.fut k_w1)
 replace HW:=zH (HW.out.fut k_w1)
 replace HB:=zH (HB.out.fut k_w1)
 clear k_w1
 obtain ⟨w2,hw_w2,BR,k_w2⟩:=nB w1 (nN 0 0 0 0 0 0 0 0 0 none 0 0 none 0 0 0 0 0 0 0 0 0 0) 87
 replace FR:=zH (FR.out.fut k_w2)
 replace HW:=zH (HW.out.fut k_w2)
 replace HB:=zH (HB.out.fut k_w2)
 replace BN:=zH (BN.out.fut k_w2)
 clear k_w2
 have cN0:=BN.out.cell 0
 have cN1:=BN.out.cell 1
 go_enter Tryz.func140,Tryz.ntmps140
 go_wp2_with fail
 have lr0:=zH (show w.heap.size≤w1.heap.size by rw [← hw_w1];simp)
 clear hw_w1 hw_w2
 refine (NM.out _).mono ?_
 rintro e w3 ⟨rfl,hb⟩
 have tn:(nameOf 7).toList.isEmpty=false:=by rw [ByteArray.toList_eq];rfl
 clear cN0 cN1
 replace FR:=zH (FR.out.fut hb)
 replace HW:=zH (HW.out.fut hb)
 replace HB:=zH (HB.out.fut hb)
 replace BN:=zH (BN.out.fut hb)
 replace BR:=zH (BR.out.fut hb)
 clear hb
 have ln:w.heap.size < w3.heap.size:=BN.out.lt
 have lr:w1.heap.size < w3.heap.size:=BR.out.lt
 have cN0:=BN.out.cell 0
 have cN1:=BN.out.cell 1
 obtain ⟨w4,hw_w4,BM,k_w4⟩:=nB w3 (nN 0 0 0 0 0 0 0 0 0 none 0 0 none 0 0 0 0 0 0 0 0 0 0) 87
 replace FR:=zH (FR.out.fut k_w4)
 replace HW:=zH (HW.out.fut k_w4)
 replace HB:=zH (HB.out.fut k_w4)
 replace BN:=zH (BN.out.fut k_w4)
 replace BR:=zH (BR.out.fut k_w4)
 clear k_w4
 go_wp2_with (refine sB 87 (.tmp 3) (.tmp 13) w3.heap.size (nN 7 a 0 0 0 0 0 0 0 none 0 0 none 0 0 0 0 0 0 0 0 0 0) BM.out ?_;intro w5 BM5 g5;have cM0:=(BN.out.away g5 (by omega)).cell 0)
 clear hw_w4 cM0
 clear cN0 cN1
 replace FR:=zH (FR.out.away g5 (by omega))
 replace HW:=zH (HW.out.away g5 (by omega))
 replace HB:=zH (HB.out.away g5 (by omega))
 replace BN:=zH (BN.out.away g5 (by omega))
 replace BR:=zH (BR.out.away g5 (by omega))
 clear g5
 have cN0:=BN.out.cell 0
 go_wp2_with (go_at_call 141;refine (SC.out _).mono ?_;rintro e w' ⟨rfl,rfl⟩)
 clear cN0
 refine wp_region_held_drew (S:=fun w'=>w'.cell? ⟨w.heap.size,7,none⟩=some (.int .i8 za)∧w'.cell? ⟨w.heap.size,17,none⟩=some (.int .i8 lo)∧w'.cell? ⟨w.heap.size,18,none⟩=some (.int .i8 hi)∧Blk w' w.heap.size 87 (nN 7 a b k s p out za zb W nw cw B nb cb qm qs qz rm rs rz lo hi)∧Below w.heap.size w w') (by kernel_rfl) ?_ (fun hS=>?_)
 ·exact ⟨BN.out.drew.cell 7,BN.out.drew.cell 17,BN.out.drew.cell 18,BN.out.drew,FR.out.out.drew⟩
 refine kH 0 rfl hS ?_
 try simp only [pX]
 refine kH 1 rfl hS ?_
 try simp only [pX]
 refine kH 2 rfl hS ?_
 try simp only [pX]
 refine tkH 3 rfl (yieldsIf_load_blk (by rfl) 85 (.tmp 85) rfl w.heap.size 11 rfl _ _ #[.int .i32 qm,.int .i64 qs,.int .i8 qz] _ (fun w hs=>hs.2.2.2.1) Tryz.underlying85 rfl (by kernel_rfl) rfl) hS ?_
 try simp only [pX]
 refine kH 4 rfl hS ?_
 try simp only [pX]
 refine kH 5 rfl hS ?_
 try simp only [pX]
 refine kH 6 rfl hS ?_
 try simp only [pX]
 refine kH 7 rfl hS ?_
 try simp only [pX]
 refine kH 8 rfl hS ?_
 try simp only [pX]
 refine rH 9 rfl (fun K hK=>?_)
 (rw [if_pos (by rfl)];refine oper_store_one 83 (.tmp 91) (.tmp 84) rfl w3.heap.size 7 (.int .i8 za) rfl rfl rfl rfl _ (nN 7 a 0 0 0 0 0 0 0 none 0 0 none 0 0 0 0 0 0 0 0 0 0) (nN 7 a 0 0 0 0 0 za 0 none 0 0 none 0 0 0 0 0 0 0 0 0 0) BM5.drew (by simp) (by kernel_rfl) rfl ?_;intro w6 BM6 g6;have BN6:=(hS.2.2.2.1).away g6 (by omega);refine hK.out _ _ ⟨BN6.cell 7,BN6.cell 17,BN6.cell 18,BN6,(hS.2.2.2.2).grown g6 (hS.2.2.2.2).size (fun k h=>by have:=Option.some.inj h;omega)⟩ (fun hS=>?_))
 clear hK K
 try simp only [pX]
 refine kH 10 rfl hS ?_
 try simp only [pX]
 refine rH 11 rfl (fun K hK=>?_)
 (rw [if_pos (by rfl)];refine oper_store_blk 85 (.tmp 92) (.tmp 86) rfl w3.heap.size 11 #[.int .i32 qm,.int .i64 qs,.int .i8 qz] rfl rfl _ (nN 7 a 0 0 0 0 0 za 0 none 0 0 none 0 0 0 0 0 0 0 0 0 0) (nN 7 a 0 0 0 0 0 za 0 none 0 0 none 0 0 qm qs qz 0 0 0 0 0) BM6 (by simp) (by kernel_rfl) (by simp [Value.oneCell']) rfl ?_;intro w7 BM7 g7;have BN7:=(hS.2.2.2.1).away g7 (by omega);refine hK.out _ _ ⟨BN7.cell 7,BN7.cell 17,BN7.cell 18,BN7,(hS.2.2.2.2).grown g7 (hS.2.2.2.2).size (fun k h=>by have:=Option.some.inj h;omega)⟩ (fun hS=>?_))
 clear hK K
 try simp only [pX]
 refine kH 12 rfl hS ?_
 try simp only [pX]
 refine rH 13 rfl (fun K hK=>?_)
 (rw [if_pos (by rfl)];refine oper_store_one 83 (.tmp 93) (.tmp 88) rfl w3.heap.size 17 (.int .i8 lo) rfl rfl rfl rfl _ (nN 7 a 0 0 0 0 0 za 0 none 0 0 none 0 0 qm qs qz 0 0 0 0 0) (nN 7 a 0 0 0 0 0 za 0 none 0 0 none 0 0 qm qs qz 0 0 0 lo 0) BM7 (by simp) (by kernel_rfl) rfl ?_;intro w8 BM8 g8;have BN8:=(hS.2.2.2.1).away g8 (by omega);refine hK.out _ _ ⟨BN8.cell 7,BN8.cell 17,BN8.cell 18,BN8,(hS.2.2.2.2).grown g8 (hS.2.2.2.2).size (fun k h=>by have:=Option.some.inj h;omega)⟩ (fun hS=>?_))
 clear hK K
 try simp only [pX]
 refine kH 14 rfl hS ?_
 try simp only [pX]
 refine rH 15 rfl (fun K hK=>?_)
 (rw [if_pos (by rfl)];refine oper_store_one 83 (.tmp 94) (.tmp 90) rfl w3.heap.size 18 (.int .i8 hi) rfl rfl rfl rfl _ (nN 7 a 0 0 0 0 0 za 0 none 0 0 none 0 0 qm qs qz 0 0 0 lo 0) (nN 7 a 0 0 0 0 0 za 0 none 0 0 none 0 0 qm qs qz 0 0 0 lo hi) BM8 (by simp) (by kernel_rfl) rfl ?_;intro w9 BM9 g9;have BN9:=(hS.2.2.2.1).away g9 (by omega);refine hK.out _ _ ⟨BN9.cell 7,BN9.cell 17,BN9.cell 18,BN9,(hS.2.2.2.2).grown g9 (hS.2.2.2.2).size (fun k h=>by have:=Option.some.inj h;omega)⟩ (fun hS=>?_))
 clear hK K
 try simp only [pX]
 refine wpAnyH_done (by kernel_rfl) ?_ _
 replace FR:=zH (Far.mk (hS.2.2.2.2))
 replace BN:=zH (hS.2.2.2.1)
 clear hS BN6 BN7 BN8 BN9
 replace HW:=zH (HW.out.draw)
 replace HB:=zH (HB.out.draw)
 replace BR:=zH (BR.out.draw)
 replace HW:=zH (HW.out.away g6 (by omega))
 replace HB:=zH (HB.out.away g6 (by omega))
 replace BR:=zH (BR.out.away g6 (by omega))
 clear g6
 replace HW:=zH (HW.out.away g7 (by omega))
 replace HB:=zH (HB.out.away g7 (by omega))
 replace BR:=zH (BR.out.away g7 (by omega))
 clear g7
 replace HW:=zH (HW.out.away g8 (by omega))
 replace HB:=zH (HB.out.away g8 (by omega))
 replace BR:=zH (BR.out.away g8 (by omega))
 clear g8
 replace HW:=zH (HW.out.away g9 (by omega))
 replace HB:=zH (HB.out.away g9 (by omega))
 replace BR:=zH (BR.out.away g9 (by omega))
 clear g9
 clear BM6
 clear BM7
 clear BM8
 go_wp2_with (first
  | (refine lB 87 (.tmp 3) w3.heap.size BM9 Tryz.underlying87 ?_)
  | (refine sB 87 (.tmp 2) (.tmp 95) w1.heap.size (nN 7 a 0 0 0 0 0 za 0 none 0 0 none 0 0 qm qs qz 0 0 0 lo hi) BR.out ?_;intro wz BZ gz))
 replace FR:=zH (FR.out.away gz (by have:=lr0.out;omega))
 refine ret_cell rfl BZ rfl Tryz.underlying87 (by kernel_rfl) rfl ⟨none,0,0,none,0,0,rfl,Sl.nil _ _ _,Sl.nil _ _ _,FR.out.out⟩
set_option maxHeartbeats 8000000 in
theorem plainShape_any (h v c h2 v2 c2:Int) (d:Node) (W:Option Addr) (nw cw:Nat) (B:Option Addr) (nb cb:Nat) (w:World) (i0:InK .i64 h) (i1:InK .i64 v) (i2:InK .i64 c) (hout:InK .i64 d.out) (hp:InK .i64 d.p) (hnw:nw=d.w.length) (hnb:nb=d.bias.length) (mw:nw≤1048576) (mb:nb≤1048576) (hk:6≤d.kind∧d.kind≤9) :
  Calls Tryz.prog 148 #[.agg (nN d.kind d.a d.b d.k d.s d.p d.out d.za d.zb W nw cw B nb cb d.qm d.qs d.qz d.rm d.rs d.rz d.lo d.hi),.agg (sN h v c),.agg (sN h2 v2 c2)] w fun e w'=>e=retS (plainV d.kind h v c h2 v2 c2 d.p)∧Below w.heap.size w w':=by
 obtain ⟨r,hr⟩:∃ r,plainV d.kind h v c h2 v2 c2 d.p=r:=⟨_,rfl⟩
 rw [hr]
 unfold plainV at hr
 have RI:=zH (fun w=>shapeRight_any h c v w i0 i1 i2)
 have RE:=zH (fun w=>elems_any h c v w i0 i1 i2)
 have EB:=zH (elems_bd (h:=h) (v:=v) (c:=c))
 have m0:=(elems_range h v c).1
 obtain ⟨m,hm⟩:∃ m,elems h v c=m:=⟨_,rfl⟩
 obtain ⟨eq,he⟩:∃ x,([h,v,c] == [h2,v2,c2])=x:=⟨_,rfl⟩
 have QE:=zH (fun w=>eq_shape w h v c h2 v2 c2)
 rw [hm,he] at hr
 rw [hm] at RI RE EB m0
 rw [he] at QE
 have VV:=zH hr.symm
 clear hr hm he i0 i1 i2 hout hnw hnb mw mb
 have FR:=zH (Far.refl w)
 obtain ⟨w1,hw_w1,BN,k_w1⟩:=nB w (nN d.kind d.a d.b d.k d.s d.p d.out d.za d.zb W nw cw B nb cb d.qm d.qs d.qz d.rm d.rs d.rz d.lo d.hi) 87
 replace FR:=zH (FR.out.fut k_w1)
 clear k_w1
 obtain ⟨w2,hw_w2,BA,k_w2⟩:=nB w1 (sN h v c) 23
 replace FR:=zH (FR.out.fut k_w2)
 replace BN:=zH (BN.out.fut k_w2)
 clear k_w2
 obtain ⟨w3,hw_w3,BB,k_w3⟩:=nB w2 (sN h2 v2 c2) 23
 replace FR:=zH (FR.out.fut k_w3)
 replace BN:=zH (BN.out.fut k_w3)
 replace BA:=zH (BA.out.fut k_w3)
 clear k_w3
 obtain ⟨w4,hw_w4,BR,k_w4⟩:=nB w3 (sN 0 0 0) 23
 replace FR:=zH (FR.out.fut k_w4)
 replace BN:=zH (BN.out.fut k_w4)
 replace BA:=zH (BA.out.fut k_w4)
 replace BB:=zH (BB.out.fut k_w4)
 clear k_w4
 have l1:w.heap.size < w1.heap.size:=by rw [← hw_w1];simp
 have l2:w1.heap.size < w2.heap.size:=by rw [← hw_w2];simp
 have l3:w2.heap.size < w3.heap.size:=by rw [← hw_w3];simp
 have l4:w3.heap.size < w4.heap.size:=by rw [← hw_w4];simp
 by_cases c1:m=0
 ·have t1:decide (0 < m)=false:=by simp;omega
  have R:=zH (show r=noS 5 by rw [VV.out,if_pos c1])
  clear c1 VV m0 hk hp EB
  go_enter Tryz.func148,Tryz.ntmps148
  go_wp2_with (first
   | (refine lB 23 (.tmp 4) w1.heap.size BA.out Tryz.underlying23 ?_))
  clear hw_w1 hw_w2 hw_w3 hw_w4
  refine (RI.out _).mono ?_
  rintro e w5 ⟨rfl,hb⟩
  replace FR:=zH (FR.out.fut hb)
  replace BN:=zH (BN.out.fut hb)
  replace BA:=zH (BA.out.fut hb)
  replace BB:=zH (BB.out.fut hb)
  replace BR:=zH (BR.out.fut hb)
  clear hb
  go_wp2_with (first
   | (refine sB 23 (.tmp 6) (.tmp 11) w3.heap.size (sN 0 0 0) BR.out ?_;intro w7 BR7 g7))
  refine rC BR7 Tryz.underlying23 ?_;exact ⟨by rw [R.out];rfl,(FR.out.away g7 (by omega)).out⟩
 have t1:decide (0 < m)=true:=by simp;omega
 have V2:=zH (show r=(if d.kind=6∧eq=false then noS 5 else if d.kind=8 then aroundV h v c d.p else if d.kind=9 then ((1,1,m),0) else ((h,v,c),0)) by rw [VV.out,if_neg c1])
 have AR:=zH (fun w=>karound_any h v c d.p w (EB.out c1) hp)
 clear VV c1 m0 hp EB
 rcases (show d.kind=6 ∨ d.kind=7 ∨ d.kind=8 ∨ d.kind=9 by omega) with e|e|e|e
 ·clear hk
  have k6:(d.kind == 6)=true:=by simp [e]
  have k8:(d.kind == 8)=false:=by simp [e]
  have k9:(d.kind == 9)=false:=by simp [e]
  cases eq
  case false =>
   have R:=zH (show r=noS 5 by rw [V2.out];simp [e])
   clear V2 e AR RE
   go_enter Tryz.func148,Tryz.ntmps148
   go_wp2_with (first
    | (refine lB 23 (.tmp 4) w1.heap.size BA.out Tryz.underlying23 ?_))
   clear hw_w1 hw_w2 hw_w3 hw_w4
   refine (RI.out _).mono ?_
   rintro e w5 ⟨rfl,hb⟩
   replace FR:=zH (FR.out.fut hb)
   replace BN:=zH (BN.out.fut hb)
   replace BA:=zH (BA.out.fut hb)
   replace BB:=zH (BB.out.fut hb)
   replace BR:=zH (BR.out.fut hb)
   clear hb
   have n0:=BN.out.cell 0
   go_wp2_with (first
    | (refine lB 23 (.tmp 4) w1.heap.size BA.out Tryz.underlying23 ?_)
    | (refine lB 23 (.tmp 5) w2.heap.size BB.out Tryz.underlying23 ?_)
    | (refine wpList_neq_agg 23 _ (.tmp 16) (.tmp 17) rfl _ _ rfl rfl (by rfl) (by kernel_rfl) _ (QE.out _) ?_;try simp only [Bool.not_true,Bool.not_false])
    | (refine sB 23 (.tmp 6) (.tmp 19) w3.heap.size (sN 0 0 0) BR.out ?_;intro w7 BR7 g7))
   refine rC BR7 Tryz.underlying23 ?_;exact ⟨by rw [R.out];rfl,(FR.out.away g7 (by omega)).out⟩
  case true =>
   have R:=zH (show r=((h,v,c),0) by rw [V2.out];simp [e])
   clear V2 e AR RE
   go_enter Tryz.func148,Tryz.ntmps148
   go_wp2_with (first
    | (refine lB 23 (.tmp 4) w1.heap.size BA.out Tryz.underlying23 ?_))
   clear hw_w1 hw_w2 hw_w3 hw_w4
   refine (RI.out _).mono ?_
   rintro e w5 ⟨rfl,hb⟩
   replace FR:=zH (FR.out.fut hb)
   replace BN:=zH (BN.out.fut hb)
   replace BA:=zH (BA.out.fut hb)
   replace BB:=zH (BB.out.fut hb)
   replace BR:=zH (BR.out.fut hb)
   clear hb
   have n0:=BN.out.cell 0
   go_wp2_with (first
    | (refine lB 23 (.tmp 4) w1.heap.size BA.out Tryz.underlying23 ?_)
    | (refine lB 23 (.tmp 5) w2.heap.size BB.out Tryz.underlying23 ?_)
    | (refine wpList_neq_agg 23 _ (.tmp 16) (.tmp 17) rfl _ _ rfl rfl (by rfl) (by kernel_rfl) _ (QE.out _) ?_;try simp only [Bool.not_true,Bool.not_false])
    | (refine sB 23 (.tmp 6) (.tmp 33) w3.heap.size (sN h v c) BR.out ?_;intro w7 BR7 g7))
   refine rC BR7 Tryz.underlying23 ?_;exact ⟨by rw [R.out];rfl,(FR.out.away g7 (by omega)).out⟩
 ·clear hk
  have k6:(d.kind == 6)=false:=by simp [e]
  have k8:(d.kind == 8)=false:=by simp [e]
  have k9:(d.kind == 9)=false:=by simp [e]
  have R:=zH (show r=((h,v,c),0) by rw [V2.out];simp [e])
  clear V2 e AR RE QE
  go_enter Tryz.func148,Tryz.ntmps148
  go_wp2_with (first
   | (refine lB 23 (.tmp 4) w1.heap.size BA.out Tryz.underlying23 ?_))
  clear hw_w1 hw_w2 hw_w3 hw_w4
  refine (RI.out _).mono ?_
  rintro e w5 ⟨rfl,hb⟩
  replace FR:=zH (FR.out.fut hb)
  replace BN:=zH (BN.out.fut hb)
  replace BA:=zH (BA.out.fut hb)
  replace BB:=zH (BB.out.fut hb)
  replace BR:=zH (BR.out.fut hb)
  clear hb
  have n0:=BN.out.cell 0
  go_wp2_with (first
   | (refine lB 23 (.tmp 4) w1.heap.size BA.out Tryz.underlying23 ?_)
   | (refine sB 23 (.tmp 6) (.tmp 33) w3.heap.size (sN h v c) BR.out ?_;intro w7 BR7 g7))
  refine rC BR7 Tryz.underlying23 ?_;exact ⟨by rw [R.out];rfl,(FR.out.away g7 (by omega)).out⟩
 ·clear hk
  have k6:(d.kind == 6)=false:=by simp [e]
  have k8:(d.kind == 8)=true:=by simp [e]
  have k9:(d.kind == 9)=false:=by simp [e]
  obtain ⟨⟨⟨x1,x2,x3⟩,xe⟩,hx⟩:∃ x,aroundV h v c d.p=x:=⟨_,rfl⟩
  rw [hx] at V2 AR
  simp only [retS] at AR
  have R:=zH (show r=((x1,x2,x3),xe) by rw [V2.out];simp [e])
  clear V2 e RE QE hx
  go_enter Tryz.func148,Tryz.ntmps148
  go_wp2_with (first
   | (refine lB 23 (.tmp 4) w1.heap.size BA.out Tryz.underlying23 ?_))
  clear hw_w1 hw_w2 hw_w3 hw_w4
  refine (RI.out _).mono ?_
  rintro e w5 ⟨rfl,hb⟩
  replace FR:=zH (FR.out.fut hb)
  replace BN:=zH (BN.out.fut hb)
  replace BA:=zH (BA.out.fut hb)
  replace BB:=zH (BB.out.fut hb)
  replace BR:=zH (BR.out.fut hb)
  clear hb
  have n0:=BN.out.cell 0
  have n5:=BN.out.cell 5
  go_wp2_with (first
   | (refine lB 23 (.tmp 4) w1.heap.size BA.out Tryz.underlying23 ?_))
  clear n0 n5
  refine (AR.out _).mono ?_
  rintro e w6 ⟨rfl,hb⟩
  replace FR:=zH (FR.out.fut hb)
  replace BN:=zH (BN.out.fut hb)
  replace BA:=zH (BA.out.fut hb)
  replace BB:=zH (BB.out.fut hb)
  replace BR:=zH (BR.out.fut hb)
  clear hb
  go_wp2_with (first
   | (refine sB 23 (.tmp 6) (.tmp 26) w3.heap.size (sN x1 x2 x3) BR.out ?_;intro w7 BR7 g7))
  refine rC BR7 Tryz.underlying23 ?_;exact ⟨by rw [R.out];rfl,(FR.out.away g7 (by omega)).out⟩
 ·clear hk
  have k6:(d.kind == 6)=false:=by simp [e]
  have k8:(d.kind == 8)=false:=by simp [e]
  have k9:(d.kind == 9)=true:=by simp [e]
  have R:=zH (show r=((1,1,m),0) by rw [V2.out];simp [e])
  clear V2 e AR QE
  go_enter Tryz.func148,Tryz.ntmps148
  go_wp2_with (first
   | (refine lB 23 (.tmp 4) w1.heap.size BA.out Tryz.underlying23 ?_))
  clear hw_w1 hw_w2 hw_w3 hw_w4
  refine (RI.out _).mono ?_
  rintro e w5 ⟨rfl,hb⟩
  replace FR:=zH (FR.out.fut hb)
  replace BN:=zH (BN.out.fut hb)
  replace BA:=zH (BA.out.fut hb)
  replace BB:=zH (BB.out.fut hb)
  replace BR:=zH (BR.out.fut hb)
  clear hb
  have n0:=BN.out.cell 0
  go_wp2_with (first
   | (refine lB 23 (.tmp 4) w1.heap.size BA.out Tryz.underlying23 ?_))
  clear n0
  refine (RE.out _).mono ?_
  rintro e w6 ⟨rfl,hb⟩
  replace FR:=zH (FR.out.fut hb)
  replace BN:=zH (BN.out.fut hb)
  replace BA:=zH (BA.out.fut hb)
  replace BB:=zH (BB.out.fut hb)
  replace BR:=zH (BR.out.fut hb)
  clear hb
  go_wp2_with (first
   | (refine sB 23 (.tmp 6) (.tmp 32) w3.heap.size (sN 1 1 m) BR.out ?_;intro w7 BR7 g7))
  refine rC BR7 Tryz.underlying23 ?_;exact ⟨by rw [R.out];rfl,(FR.out.away g7 (by omega)).out⟩
end Go.Proofs.YtppcjcigekoipaaGreat
