/-
  What a node's kind tells (layer 25): kinds.Plain, some of the kinds.
  What a node's kind tells (layer 25): kinds.Plain, some of the kinds.
  The shape that a node makes (layers 18, 25): dense.Shape.
  The shape that a node makes (layers 18, 25): kinds.around.
  The shape that a node makes (layers 18, 25): kinds.plainShape.
  The shape that a node makes (layers 18, 25): kinds.Shape.
-/
import Derived.Test.YtjkmjpjknmghlaaGreatJ24
import Derived.Test.YtjkmjpjknmghlaaGreatJ11
import Derived.Test.YtjkmjpjknmghlaaGreatJ12
set_option linter.unusedVariables false
set_option linter.unusedSimpArgs false
namespace Go.Proofs.YtjkmjpjknmghlaaGreat
open Go.RowKit Go.ChangeShapes Go.WideShapes
set_option maxRecDepth 100000
set_option maxHeartbeats 8000000 in
theorem plain_6 (a b k s p out za zb qm qs qz rm rs rz lo hi:Int) (wl bl:List Int) (W:Option Addr) (nw cw:Nat) (B:Option Addr) (nb cb:Nat) (w:World) (hw:Sl (tInt .i8) w (blo w.heap.size) W nw cw wl) (hb:Sl (tInt .i32) w (blo w.heap.size) B nb cb bl) (mw:nw≤1048576) (mb:nb≤1048576) :
  Calls Tryz.prog 71 #[.agg (nN 6 a b k s p out za zb W nw cw B nb cb qm qs qz rm rs rz lo hi)] w (RetNode ⟨6,a,b,0,0,0,0,za,zb,[],[],qm,qs,qz,rm,rs,0,lo,hi⟩ w):=by
 have HW:=zH (Old.now hw)
 have HB:=zH (Old.now hb)
 clear hw hb
 have SC:=zH (fun w=>scaledK_any 6 w)
 rw [show scaledK 6=true from rfl] at SC
 have NM:=zH (fun w=>kname_any 6 w)
 have FR:=zH (Far.refl w)
 obtain ⟨w1,hw_w1,BN,k_w1⟩:=nB w (nN 6 a b k s p out za zb W nw cw B nb cb qm qs qz rm rs rz lo hi) 44
 replace FR:=zH (FR.out.fut k_w1)
 replace HW:=zH (HW.out.fut k_w1)
 replace HB:=zH (HB.out.fut k_w1)
 clear k_w1
 obtain ⟨w2,hw_w2,BR,k_w2⟩:=nB w1 (nN 0 0 0 0 0 0 0 0 0 none 0 0 none 0 0 0 0 0 0 0 0 0 0) 44
 replace FR:=zH (FR.out.fut k_w2)
 replace HW:=zH (HW.out.fut k_w2)
 replace HB:=zH (HB.out.fut k_w2)
 replace BN:=zH (BN.out.fut k_w2)
 clear k_w2
 have cN0:=BN.out.cell 0
 have cN1:=BN.out.cell 1
 go_enter Tryz.func71,Tryz.ntmps71
 go_wp2_with fail
 have lr0:=zH (show w.heap.size≤w1.heap.size by rw [← hw_w1];simp)
 clear hw_w1 hw_w2
 refine (NM.out _).mono ?_
 rintro e w3 ⟨rfl,hb⟩
 have tn:(nameOf 6).toList.isEmpty=false:=by rw [ByteArray.toList_eq];rfl
 clear cN0 cN1
 replace FR:=zH (FR.out.fut hb)
 replace HW:=zH (HW.out.fut hb)
 replace HB:=zH (HB.out.fut hb)
 replace BN:=zH (BN.out.fut hb)
 replace BR:=zH (BR.out.fut hb)
 clear hb
 have ln:w.heap.size < w3.heap.size:=BN.out.lt
 have lr:w1.heap.size < w3.heap.size:=BR.out.lt
 have cN0:=BN.out.cell 0
 have cN1:=BN.out.cell 1
 obtain ⟨w4,hw_w4,BM,k_w4⟩:=nB w3 (nN 0 0 0 0 0 0 0 0 0 none 0 0 none 0 0 0 0 0 0 0 0 0 0) 44
 replace FR:=zH (FR.out.fut k_w4)
 replace HW:=zH (HW.out.fut k_w4)
 replace HB:=zH (HB.out.fut k_w4)
 replace BN:=zH (BN.out.fut k_w4)
 replace BR:=zH (BR.out.fut k_w4)
 clear k_w4
 go_wp2_with (refine wpList_store_all rfl 44 (.tmp 3) (.tmp 13) rfl w3.heap.size (nN 6 a 0 0 0 0 0 0 0 none 0 0 none 0 0 0 0 0 0 0 0 0 0) rfl rfl _ _ BM.out rfl (by kernel_rfl) (by simp [Value.oneCell']) ?_;intro w5 BM5 g5;have cM0:=(BN.out.away g5 (by omega)).cell 0)
 clear hw_w4 cM0
 clear cN0 cN1
 replace FR:=zH (FR.out.away g5 (by omega))
 replace HW:=zH (HW.out.away g5 (by omega))
 replace HB:=zH (HB.out.away g5 (by omega))
 replace BN:=zH (BN.out.away g5 (by omega))
 replace BR:=zH (BR.out.away g5 (by omega))
 clear g5
 refine wp_region_held_drew (S:=fun w'=>w'.cell? ⟨w.heap.size,2,none⟩=some (.int .i64 b)∧w'.cell? ⟨w.heap.size,8,none⟩=some (.int .i8 zb)∧w'.cell? ⟨w.heap.size,14,none⟩=some (.int .i32 rm)∧w'.cell? ⟨w.heap.size,15,none⟩=some (.int .i64 rs)∧Blk w' w.heap.size 44 (nN 6 a b k s p out za zb W nw cw B nb cb qm qs qz rm rs rz lo hi)∧Below w.heap.size w w') (by kernel_rfl) ?_ (fun hS=>?_)
 ·exact ⟨BN.out.drew.cell 2,BN.out.drew.cell 8,BN.out.drew.cell 14,BN.out.drew.cell 15,BN.out.drew,FR.out.out.drew⟩
 refine kH 0 rfl hS ?_
 try simp only [pX]
 refine kH 1 rfl hS ?_
 try simp only [pX]
 refine kH 2 rfl hS ?_
 try simp only [pX]
 refine kH 3 rfl hS ?_
 try simp only [pX]
 refine kH 4 rfl hS ?_
 try simp only [pX]
 refine kH 5 rfl hS ?_
 try simp only [pX]
 refine kH 6 rfl hS ?_
 try simp only [pX]
 refine kH 7 rfl hS ?_
 try simp only [pX]
 refine kH 8 rfl hS ?_
 try simp only [pX]
 refine kH 9 rfl hS ?_
 try simp only [pX]
 refine kH 10 rfl hS ?_
 try simp only [pX]
 refine kH 11 rfl hS ?_
 try simp only [pX]
 refine rH 12 rfl (fun K hK=>?_)
 (rw [if_pos (by rfl)];refine oper_store_one 3 (.tmp 71) (.tmp 61) rfl w3.heap.size 2 (.int .i64 b) rfl rfl rfl rfl _ (nN 6 a 0 0 0 0 0 0 0 none 0 0 none 0 0 0 0 0 0 0 0 0 0) (nN 6 a b 0 0 0 0 0 0 none 0 0 none 0 0 0 0 0 0 0 0 0 0) BM5.drew (by simp) (by kernel_rfl) rfl ?_;intro w6 BM6 g6;have BN6:=(hS.2.2.2.2.1).away g6 (by omega);refine hK.out _ _ ⟨BN6.cell 2,BN6.cell 8,BN6.cell 14,BN6.cell 15,BN6,(hS.2.2.2.2.2).grown g6 (hS.2.2.2.2.2).size (fun k h=>by have:=Option.some.inj h;omega)⟩ (fun hS=>?_))
 clear hK K
 try simp only [pX]
 refine kH 13 rfl hS ?_
 try simp only [pX]
 refine rH 14 rfl (fun K hK=>?_)
 (rw [if_pos (by rfl)];refine oper_store_one 39 (.tmp 72) (.tmp 63) rfl w3.heap.size 8 (.int .i8 zb) rfl rfl rfl rfl _ (nN 6 a b 0 0 0 0 0 0 none 0 0 none 0 0 0 0 0 0 0 0 0 0) (nN 6 a b 0 0 0 0 0 zb none 0 0 none 0 0 0 0 0 0 0 0 0 0) BM6 (by simp) (by kernel_rfl) rfl ?_;intro w7 BM7 g7;have BN7:=(hS.2.2.2.2.1).away g7 (by omega);refine hK.out _ _ ⟨BN7.cell 2,BN7.cell 8,BN7.cell 14,BN7.cell 15,BN7,(hS.2.2.2.2.2).grown g7 (hS.2.2.2.2.2).size (fun k h=>by have:=Option.some.inj h;omega)⟩ (fun hS=>?_))
 clear hK K
 try simp only [pX]
 refine kH 15 rfl hS ?_
 try simp only [pX]
 refine rH 16 rfl (fun K hK=>?_)
 (rw [if_pos (by rfl)];refine oper_store_blk 42 (.tmp 73) (.tmp 70) rfl w3.heap.size 14 #[.int .i32 rm,.int .i64 rs,.int .i8 0] rfl rfl _ (nN 6 a b 0 0 0 0 0 zb none 0 0 none 0 0 0 0 0 0 0 0 0 0) (nN 6 a b 0 0 0 0 0 zb none 0 0 none 0 0 0 0 0 rm rs 0 0 0) BM7 (by simp) (by kernel_rfl) (by simp [Value.oneCell']) rfl ?_;intro w8 BM8 g8;have BN8:=(hS.2.2.2.2.1).away g8 (by omega);refine hK.out _ _ ⟨BN8.cell 2,BN8.cell 8,BN8.cell 14,BN8.cell 15,BN8,(hS.2.2.2.2.2).grown g8 (hS.2.2.2.2.2).size (fun k h=>by have:=Option.some.inj h;omega)⟩ (fun hS=>?_))
 clear hK K
 try simp only [pX]
 refine wpAnyH_done (by kernel_rfl) ?_ _
 replace FR:=zH (Far.mk (hS.2.2.2.2.2))
 replace BN:=zH (hS.2.2.2.2.1)
 clear hS BN6 BN7 BN8
 replace HW:=zH (HW.out.draw)
 replace HB:=zH (HB.out.draw)
 replace BR:=zH (BR.out.draw)
 replace HW:=zH (HW.out.away g6 (by omega))
 replace HB:=zH (HB.out.away g6 (by omega))
 replace BR:=zH (BR.out.away g6 (by omega))
 clear g6
 replace HW:=zH (HW.out.away g7 (by omega))
 replace HB:=zH (HB.out.away g7 (by omega))
 replace BR:=zH (BR.out.away g7 (by omega))
 clear g7
 replace HW:=zH (HW.out.away g8 (by omega))
 replace HB:=zH (HB.out.away g8 (by omega))
 replace BR:=zH (BR.out.away g8 (by omega))
 clear g8
 clear BM6
 clear BM7
 have cN0:=BN.out.cell 0
 go_wp2_with (go_at_call 72;refine (SC.out _).mono ?_;rintro e w' ⟨rfl,rfl⟩)
 clear cN0
 refine wp_region_held_drew (S:=fun w'=>w'.cell? ⟨w.heap.size,7,none⟩=some (.int .i8 za)∧w'.cell? ⟨w.heap.size,17,none⟩=some (.int .i8 lo)∧w'.cell? ⟨w.heap.size,18,none⟩=some (.int .i8 hi)∧Blk w' w.heap.size 44 (nN 6 a b k s p out za zb W nw cw B nb cb qm qs qz rm rs rz lo hi)∧Below w.heap.size w w') (by kernel_rfl) ?_ (fun hS=>?_)
 ·exact ⟨BN.out.drew.cell 7,BN.out.drew.cell 17,BN.out.drew.cell 18,BN.out.drew,FR.out.out.drew⟩
 refine kH 0 rfl hS ?_
 try simp only [pX]
 refine kH 1 rfl hS ?_
 try simp only [pX]
 refine kH 2 rfl hS ?_
 try simp only [pX]
 refine tkH 3 rfl (yieldsIf_load_blk (by rfl) 42 (.tmp 85) rfl w.heap.size 11 rfl _ _ #[.int .i32 qm,.int .i64 qs,.int .i8 qz] _ (fun w hs=>hs.2.2.2.1) Tryz.underlying42 rfl (by kernel_rfl) rfl) hS ?_
 try simp only [pX]
 refine kH 4 rfl hS ?_
 try simp only [pX]
 refine kH 5 rfl hS ?_
 try simp only [pX]
 refine kH 6 rfl hS ?_
 try simp only [pX]
 refine kH 7 rfl hS ?_
 try simp only [pX]
 refine kH 8 rfl hS ?_
 try simp only [pX]
 refine rH 9 rfl (fun K hK=>?_)
 (rw [if_pos (by rfl)];refine oper_store_one 39 (.tmp 91) (.tmp 84) rfl w3.heap.size 7 (.int .i8 za) rfl rfl rfl rfl _ (nN 6 a b 0 0 0 0 0 zb none 0 0 none 0 0 0 0 0 rm rs 0 0 0) (nN 6 a b 0 0 0 0 za zb none 0 0 none 0 0 0 0 0 rm rs 0 0 0) BM8.drew (by simp) (by kernel_rfl) rfl ?_;intro w9 BM9 g9;have BN9:=(hS.2.2.2.1).away g9 (by omega);refine hK.out _ _ ⟨BN9.cell 7,BN9.cell 17,BN9.cell 18,BN9,(hS.2.2.2.2).grown g9 (hS.2.2.2.2).size (fun k h=>by have:=Option.some.inj h;omega)⟩ (fun hS=>?_))
 clear hK K
 try simp only [pX]
 refine kH 10 rfl hS ?_
 try simp only [pX]
 refine rH 11 rfl (fun K hK=>?_)
 (rw [if_pos (by rfl)];refine oper_store_blk 42 (.tmp 92) (.tmp 86) rfl w3.heap.size 11 #[.int .i32 qm,.int .i64 qs,.int .i8 qz] rfl rfl _ (nN 6 a b 0 0 0 0 za zb none 0 0 none 0 0 0 0 0 rm rs 0 0 0) (nN 6 a b 0 0 0 0 za zb none 0 0 none 0 0 qm qs qz rm rs 0 0 0) BM9 (by simp) (by kernel_rfl) (by simp [Value.oneCell']) rfl ?_;intro w10 BM10 g10;have BN10:=(hS.2.2.2.1).away g10 (by omega);refine hK.out _ _ ⟨BN10.cell 7,BN10.cell 17,BN10.cell 18,BN10,(hS.2.2.2.2).grown g10 (hS.2.2.2.2).size (fun k h=>by have:=Option.some.inj h;omega)⟩ (fun hS=>?_))
 clear hK K
 try simp only [pX]
 refine kH 12 rfl hS ?_
 try simp only [pX]
 refine rH 13 rfl (fun K hK=>?_)
 (rw [if_pos (by rfl)];refine oper_store_one 39 (.tmp 93) (.tmp 88) rfl w3.heap.size 17 (.int .i8 lo) rfl rfl rfl rfl _ (nN 6 a b 0 0 0 0 za zb none 0 0 none 0 0 qm qs qz rm rs 0 0 0) (nN 6 a b 0 0 0 0 za zb none 0 0 none 0 0 qm qs qz rm rs 0 lo 0) BM10 (by simp) (by kernel_rfl) rfl ?_;intro w11 BM11 g11;have BN11:=(hS.2.2.2.1).away g11 (by omega);refine hK.out _ _ ⟨BN11.cell 7,BN11.cell 17,BN11.cell 18,BN11,(hS.2.2.2.2).grown g11 (hS.2.2.2.2).size (fun k h=>by have:=Option.some.inj h;omega)⟩ (fun hS=>?_))
 clear hK K
 try simp only [pX]
 refine kH 14 rfl hS ?_
 try simp only [pX]
 refine rH 15 rfl (fun K hK=>?_)
 (rw [if_pos (by rfl)];refine oper_store_one 39 (.tmp 94) (.tmp 90) rfl w3.heap.size 18 (.int .i8 hi) rfl rfl rfl rfl _ (nN 6 a b 0 0 0 0 za zb none 0 0 none 0 0 qm qs qz rm rs 0 lo 0) (nN 6 a b 0 0 0 0 za zb none 0 0 none 0 0 qm qs qz rm rs 0 lo hi) BM11 (by simp) (by kernel_rfl) rfl ?_;intro w12 BM12 g12;have BN12:=(hS.2.2.2.1).away g12 (by omega);refine hK.out _ _ ⟨BN12.cell 7,BN12.cell 17,BN12.cell 18,BN12,(hS.2.2.2.2).grown g12 (hS.2.2.2.2).size (fun k h=>by have:=Option.some.inj h;omega)⟩ (fun hS=>?_))
 clear hK K
 try simp only [pX]
 refine wpAnyH_done (by kernel_rfl) ?_ _
 replace FR:=zH (Far.mk (hS.2.2.2.2))
 replace BN:=zH (hS.2.2.2.1)
 clear hS BN9 BN10 BN11 BN12
 replace HW:=zH (HW.out.draw)
 replace HB:=zH (HB.out.draw)
 replace BR:=zH (BR.out.draw)
 replace HW:=zH (HW.out.away g9 (by omega))
 replace HB:=zH (HB.out.away g9 (by omega))
 replace BR:=zH (BR.out.away g9 (by omega))
 clear g9
 replace HW:=zH (HW.out.away g10 (by omega))
 replace HB:=zH (HB.out.away g10 (by omega))
 replace BR:=zH (BR.out.away g10 (by omega))
 clear g10
 replace HW:=zH (HW.out.away g11 (by omega))
 replace HB:=zH (HB.out.away g11 (by omega))
 replace BR:=zH (BR.out.away g11 (by omega))
 clear g11
 replace HW:=zH (HW.out.away g12 (by omega))
 replace HB:=zH (HB.out.away g12 (by omega))
 replace BR:=zH (BR.out.away g12 (by omega))
 clear g12
 clear BM9
 clear BM10
 clear BM11
 go_wp2_with (first
  | (refine wpList_load_row rfl 44 (.tmp 3) rfl w3.heap.size rfl _ _ (0,0) _ BM12.heap Tryz.underlying44 rfl (by kernel_rfl) ?_)
  | (refine wpList_store_all rfl 44 (.tmp 2) (.tmp 95) rfl w1.heap.size (nN 6 a b 0 0 0 0 za zb none 0 0 none 0 0 qm qs qz rm rs 0 lo hi) rfl rfl _ _ BR.out rfl (by kernel_rfl) (by simp [Value.oneCell']) ?_;intro wz BZ gz))
 replace FR:=zH (FR.out.away gz (by have:=lr0.out;omega))
 refine ret_cell rfl BZ rfl Tryz.underlying44 (by kernel_rfl) rfl ⟨none,0,0,none,0,0,rfl,Sl.nil _ _ _,Sl.nil _ _ _,FR.out.out⟩
set_option maxHeartbeats 8000000 in
theorem plain_7 (a b k s p out za zb qm qs qz rm rs rz lo hi:Int) (wl bl:List Int) (W:Option Addr) (nw cw:Nat) (B:Option Addr) (nb cb:Nat) (w:World) (hw:Sl (tInt .i8) w (blo w.heap.size) W nw cw wl) (hb:Sl (tInt .i32) w (blo w.heap.size) B nb cb bl) (mw:nw≤1048576) (mb:nb≤1048576) :
  Calls Tryz.prog 71 #[.agg (nN 7 a b k s p out za zb W nw cw B nb cb qm qs qz rm rs rz lo hi)] w (RetNode ⟨7,a,0,0,0,0,0,za,0,[],[],qm,qs,qz,0,0,0,lo,hi⟩ w):=by
 have HW:=zH (Old.now hw)
 have HB:=zH (Old.now hb)
 clear hw hb
 have SC:=zH (fun w=>scaledK_any 7 w)
 rw [show scaledK 7=true from rfl] at SC
 have NM:=zH (fun w=>kname_any 7 w)
 have FR:=zH (Far.refl w)
 obtain ⟨w1,hw_w1,BN,k_w1⟩:=nB w (nN 7 a b k s p out za zb W nw cw B nb cb qm qs qz rm rs rz lo hi) 44
 replace FR:=zH (FR.out.fut k_w1)
 replace HW:=zH (HW.out.fut k_w1)
 replace HB:=zH (HB.out.fut k_w1)
 clear k_w1
 obtain ⟨w2,hw_w2,BR,k_w2⟩:=nB w1 (nN 0 0 0 0 0 0 0 0 0 none 0 0 none 0 0 0 0 0 0 0 0 0 0) 44
 replace FR:=zH (FR.out.fut k_w2)
 replace HW:=zH (HW.out.fut k_w2)
 replace HB:=zH (HB.out.fut k_w2)
 replace BN:=zH (BN.out.fut k_w2)
 clear k_w2
 have cN0:=BN.out.cell 0
 have cN1:=BN.out.cell 1
 go_enter Tryz.func71,Tryz.ntmps71
 go_wp2_with fail
 have lr0:=zH (show w.heap.size≤w1.heap.size by rw [← hw_w1];simp)
 clear hw_w1 hw_w2
 refine (NM.out _).mono ?_
 rintro e w3 ⟨rfl,hb⟩
 have tn:(nameOf 7).toList.isEmpty=false:=by rw [ByteArray.toList_eq];rfl
 clear cN0 cN1
 replace FR:=zH (FR.out.fut hb)
 replace HW:=zH (HW.out.fut hb)
 replace HB:=zH (HB.out.fut hb)
 replace BN:=zH (BN.out.fut hb)
 replace BR:=zH (BR.out.fut hb)
 clear hb
 have ln:w.heap.size < w3.heap.size:=BN.out.lt
 have lr:w1.heap.size < w3.heap.size:=BR.out.lt
 have cN0:=BN.out.cell 0
 have cN1:=BN.out.cell 1
 obtain ⟨w4,hw_w4,BM,k_w4⟩:=nB w3 (nN 0 0 0 0 0 0 0 0 0 none 0 0 none 0 0 0 0 0 0 0 0 0 0) 44
 replace FR:=zH (FR.out.fut k_w4)
 replace HW:=zH (HW.out.fut k_w4)
 replace HB:=zH (HB.out.fut k_w4)
 replace BN:=zH (BN.out.fut k_w4)
 replace BR:=zH (BR.out.fut k_w4)
 clear k_w4
 go_wp2_with (refine wpList_store_all rfl 44 (.tmp 3) (.tmp 13) rfl w3.heap.size (nN 7 a 0 0 0 0 0 0 0 none 0 0 none 0 0 0 0 0 0 0 0 0 0) rfl rfl _ _ BM.out rfl (by kernel_rfl) (by simp [Value.oneCell']) ?_;intro w5 BM5 g5;have cM0:=(BN.out.away g5 (by omega)).cell 0)
 clear hw_w4 cM0
 clear cN0 cN1
 replace FR:=zH (FR.out.away g5 (by omega))
 replace HW:=zH (HW.out.away g5 (by omega))
 replace HB:=zH (HB.out.away g5 (by omega))
 replace BN:=zH (BN.out.away g5 (by omega))
 replace BR:=zH (BR.out.away g5 (by omega))
 clear g5
 have cN0:=BN.out.cell 0
 go_wp2_with (go_at_call 72;refine (SC.out _).mono ?_;rintro e w' ⟨rfl,rfl⟩)
 clear cN0
 refine wp_region_held_drew (S:=fun w'=>w'.cell? ⟨w.heap.size,7,none⟩=some (.int .i8 za)∧w'.cell? ⟨w.heap.size,17,none⟩=some (.int .i8 lo)∧w'.cell? ⟨w.heap.size,18,none⟩=some (.int .i8 hi)∧Blk w' w.heap.size 44 (nN 7 a b k s p out za zb W nw cw B nb cb qm qs qz rm rs rz lo hi)∧Below w.heap.size w w') (by kernel_rfl) ?_ (fun hS=>?_)
 ·exact ⟨BN.out.drew.cell 7,BN.out.drew.cell 17,BN.out.drew.cell 18,BN.out.drew,FR.out.out.drew⟩
 refine kH 0 rfl hS ?_
 try simp only [pX]
 refine kH 1 rfl hS ?_
 try simp only [pX]
 refine kH 2 rfl hS ?_
 try simp only [pX]
 refine tkH 3 rfl (yieldsIf_load_blk (by rfl) 42 (.tmp 85) rfl w.heap.size 11 rfl _ _ #[.int .i32 qm,.int .i64 qs,.int .i8 qz] _ (fun w hs=>hs.2.2.2.1) Tryz.underlying42 rfl (by kernel_rfl) rfl) hS ?_
 try simp only [pX]
 refine kH 4 rfl hS ?_
 try simp only [pX]
 refine kH 5 rfl hS ?_
 try simp only [pX]
 refine kH 6 rfl hS ?_
 try simp only [pX]
 refine kH 7 rfl hS ?_
 try simp only [pX]
 refine kH 8 rfl hS ?_
 try simp only [pX]
 refine rH 9 rfl (fun K hK=>?_)
 (rw [if_pos (by rfl)];refine oper_store_one 39 (.tmp 91) (.tmp 84) rfl w3.heap.size 7 (.int .i8 za) rfl rfl rfl rfl _ (nN 7 a 0 0 0 0 0 0 0 none 0 0 none 0 0 0 0 0 0 0 0 0 0) (nN 7 a 0 0 0 0 0 za 0 none 0 0 none 0 0 0 0 0 0 0 0 0 0) BM5.drew (by simp) (by kernel_rfl) rfl ?_;intro w6 BM6 g6;have BN6:=(hS.2.2.2.1).away g6 (by omega);refine hK.out _ _ ⟨BN6.cell 7,BN6.cell 17,BN6.cell 18,BN6,(hS.2.2.2.2).grown g6 (hS.2.2.2.2).size (fun k h=>by have:=Option.some.inj h;omega)⟩ (fun hS=>?_))
 clear hK K
 try simp only [pX]
 refine kH 10 rfl hS ?_
 try simp only [pX]
 refine rH 11 rfl (fun K hK=>?_)
 (rw [if_pos (by rfl)];refine oper_store_blk 42 (.tmp 92) (.tmp 86) rfl w3.heap.size 11 #[.int .i32 qm,.int .i64 qs,.int .i8 qz] rfl rfl _ (nN 7 a 0 0 0 0 0 za 0 none 0 0 none 0 0 0 0 0 0 0 0 0 0) (nN 7 a 0 0 0 0 0 za 0 none 0 0 none 0 0 qm qs qz 0 0 0 0 0) BM6 (by simp) (by kernel_rfl) (by simp [Value.oneCell']) rfl ?_;intro w7 BM7 g7;have BN7:=(hS.2.2.2.1).away g7 (by omega);refine hK.out _ _ ⟨BN7.cell 7,BN7.cell 17,BN7.cell 18,BN7,(hS.2.2.2.2).grown g7 (hS.2.2.2.2).size (fun k h=>by have:=Option.some.inj h;omega)⟩ (fun hS=>?_))
 clear hK K
 try simp only [pX]
 refine kH 12 rfl hS ?_
 try simp only [pX]
 refine rH 13 rfl (fun K hK=>?_)
 (rw [if_pos (by rfl)];refine oper_store_one 39 (.tmp 93) (.tmp 88) rfl w3.heap.size 17 (.int .i8 lo) rfl rfl rfl rfl _ (nN 7 a 0 0 0 0 0 za 0 none 0 0 none 0 0 qm qs qz 0 0 0 0 0) (nN 7 a 0 0 0 0 0 za 0 none 0 0 none 0 0 qm qs qz 0 0 0 lo 0) BM7 (by simp) (by kernel_rfl) rfl ?_;intro w8 BM8 g8;have BN8:=(hS.2.2.2.1).away g8 (by omega);refine hK.out _ _ ⟨BN8.cell 7,BN8.cell 17,BN8.cell 18,BN8,(hS.2.2.2.2).grown g8 (hS.2.2.2.2).size (fun k h=>by have:=Option.some.inj h;omega)⟩ (fun hS=>?_))
 clear hK K
 try simp only [pX]
 refine kH 14 rfl hS ?_
 try simp only [pX]
 refine rH 15 rfl (fun K hK=>?_)
 (rw [if_pos (by rfl)];refine oper_store_one 39 (.tmp 94) (.tmp 90) rfl w3.heap.size 18 (.int .i8 hi) rfl rfl rfl rfl _ (nN 7 a 0 0 0 0 0 za 0 none 0 0 none 0 0 qm qs qz 0 0 0 lo 0) (nN 7 a 0 0 0 0 0 za 0 none 0 0 none 0 0 qm qs qz 0 0 0 lo hi) BM8 (by simp) (by kernel_rfl) rfl ?_;intro w9 BM9 g9;have BN9:=(hS.2.2.2.1).away g9 (by omega);refine hK.out _ _ ⟨BN9.cell 7,BN9.cell 17,BN9.cell 18,BN9,(hS.2.2.2.2).grown g9 (hS.2.2.2.2).size (fun k h=>by have:=Option.some.inj h;omega)⟩ (fun hS=>?_))
 clear hK K
 try simp only [pX]
 refine wpAnyH_done (by kernel_rfl) ?_ _
 replace FR:=zH (Far.mk (hS.2.2.2.2))
 replace BN:=zH (hS.2.2.2.1)
 clear hS BN6 BN7 BN8 BN9
 replace HW:=zH (HW.out.draw)
 replace HB:=zH (HB.out.draw)
 replace BR:=zH (BR.out.draw)
 replace HW:=zH (HW.out.away g6 (by omega))
 replace HB:=zH (HB.out.away g6 (by omega))
 replace BR:=zH (BR.out.away g6 (by omega))
 clear g6
 replace HW:=zH (HW.out.away g7 (by omega))
 replace HB:=zH (HB.out.away g7 (by omega))
 replace BR:=zH (BR.out.away g7 (by omega))
 clear g7
 replace HW:=zH (HW.out.away g8 (by omega))
 replace HB:=zH (HB.out.away g8 (by omega))
 replace BR:=zH (BR.out.away g8 (by omega))
 clear g8
 replace HW:=zH (HW.out.away g9 (by omega))
 replace HB:=zH (HB.out.away g9 (by omega))
 replace BR:=zH (BR.out.away g9 (by omega))
 clear g9
 clear BM6
 clear BM7
 clear BM8
 go_wp2_with (first
  | (refine wpList_load_row rfl 44 (.tmp 3) rfl w3.heap.size rfl _ _ (0,0) _ BM9.heap Tryz.underlying44 rfl (by kernel_rfl) ?_)
  | (refine wpList_store_all rfl 44 (.tmp 2) (.tmp 95) rfl w1.heap.size (nN 7 a 0 0 0 0 0 za 0 none 0 0 none 0 0 qm qs qz 0 0 0 lo hi) rfl rfl _ _ BR.out rfl (by kernel_rfl) (by simp [Value.oneCell']) ?_;intro wz BZ gz))
 replace FR:=zH (FR.out.away gz (by have:=lr0.out;omega))
 refine ret_cell rfl BZ rfl Tryz.underlying44 (by kernel_rfl) rfl ⟨none,0,0,none,0,0,rfl,Sl.nil _ _ _,Sl.nil _ _ _,FR.out.out⟩
set_option maxHeartbeats 8000000 in
theorem plain_8 (a b k s p out za zb qm qs qz rm rs rz lo hi:Int) (wl bl:List Int) (W:Option Addr) (nw cw:Nat) (B:Option Addr) (nb cb:Nat) (w:World) (hw:Sl (tInt .i8) w (blo w.heap.size) W nw cw wl) (hb:Sl (tInt .i32) w (blo w.heap.size) B nb cb bl) (mw:nw≤1048576) (mb:nb≤1048576) :
  Calls Tryz.prog 71 #[.agg (nN 8 a b k s p out za zb W nw cw B nb cb qm qs qz rm rs rz lo hi)] w (RetNode ⟨8,a,0,0,0,p,0,za,0,[],[],0,0,0,0,0,0,0,0⟩ w):=by
 have HW:=zH (Old.now hw)
 have HB:=zH (Old.now hb)
 clear hw hb
 have SC:=zH (fun w=>scaledK_any 8 w)
 rw [show scaledK 8=false from rfl] at SC
 have NM:=zH (fun w=>kname_any 8 w)
 have FR:=zH (Far.refl w)
 obtain ⟨w1,hw_w1,BN,k_w1⟩:=nB w (nN 8 a b k s p out za zb W nw cw B nb cb qm qs qz rm rs rz lo hi) 44
 replace FR:=zH (FR.out.fut k_w1)
 replace HW:=zH (HW.out.fut k_w1)
 replace HB:=zH (HB.out.fut k_w1)
 clear k_w1
 obtain ⟨w2,hw_w2,BR,k_w2⟩:=nB w1 (nN 0 0 0 0 0 0 0 0 0 none 0 0 none 0 0 0 0 0 0 0 0 0 0) 44
 replace FR:=zH (FR.out.fut k_w2)
 replace HW:=zH (HW.out.fut k_w2)
 replace HB:=zH (HB.out.fut k_w2)
 replace BN:=zH (BN.out.fut k_w2)
 clear k_w2
 have cN0:=BN.out.cell 0
 have cN1:=BN.out.cell 1
 go_enter Tryz.func71,Tryz.ntmps71
 go_wp2_with fail
 have lr0:=zH (show w.heap.size≤w1.heap.size by rw [← hw_w1];simp)
 clear hw_w1 hw_w2
 refine (NM.out _).mono ?_
 rintro e w3 ⟨rfl,hb⟩
 have tn:(nameOf 8).toList.isEmpty=false:=by rw [ByteArray.toList_eq];rfl
 clear cN0 cN1
 replace FR:=zH (FR.out.fut hb)
 replace HW:=zH (HW.out.fut hb)
 replace HB:=zH (HB.out.fut hb)
 replace BN:=zH (BN.out.fut hb)
 replace BR:=zH (BR.out.fut hb)
 clear hb
 have ln:w.heap.size < w3.heap.size:=BN.out.lt
 have lr:w1.heap.size < w3.heap.size:=BR.out.lt
 have cN0:=BN.out.cell 0
 have cN1:=BN.out.cell 1
 obtain ⟨w4,hw_w4,BM,k_w4⟩:=nB w3 (nN 0 0 0 0 0 0 0 0 0 none 0 0 none 0 0 0 0 0 0 0 0 0 0) 44
 replace FR:=zH (FR.out.fut k_w4)
 replace HW:=zH (HW.out.fut k_w4)
 replace HB:=zH (HB.out.fut k_w4)
 replace BN:=zH (BN.out.fut k_w4)
 replace BR:=zH (BR.out.fut k_w4)
 clear k_w4
 go_wp2_with (refine wpList_store_all rfl 44 (.tmp 3) (.tmp 13) rfl w3.heap.size (nN 8 a 0 0 0 0 0 0 0 none 0 0 none 0 0 0 0 0 0 0 0 0 0) rfl rfl _ _ BM.out rfl (by kernel_rfl) (by simp [Value.oneCell']) ?_;intro w5 BM5 g5;have cM0:=(BN.out.away g5 (by omega)).cell 0)
 clear hw_w4 cM0
 clear cN0 cN1
 replace FR:=zH (FR.out.away g5 (by omega))
 replace HW:=zH (HW.out.away g5 (by omega))
 replace HB:=zH (HB.out.away g5 (by omega))
 replace BN:=zH (BN.out.away g5 (by omega))
 replace BR:=zH (BR.out.away g5 (by omega))
 clear g5
 refine wp_region_held_drew (S:=fun w'=>w'.cell? ⟨w.heap.size,5,none⟩=some (.int .i64 p)∧w'.cell? ⟨w.heap.size,7,none⟩=some (.int .i8 za)∧Blk w' w.heap.size 44 (nN 8 a b k s p out za zb W nw cw B nb cb qm qs qz rm rs rz lo hi)∧Below w.heap.size w w') (by kernel_rfl) ?_ (fun hS=>?_)
 ·exact ⟨BN.out.drew.cell 5,BN.out.drew.cell 7,BN.out.drew,FR.out.out.drew⟩
 refine kH 0 rfl hS ?_
 try simp only [pX]
 refine kH 1 rfl hS ?_
 try simp only [pX]
 refine kH 2 rfl hS ?_
 try simp only [pX]
 refine kH 3 rfl hS ?_
 try simp only [pX]
 refine kH 4 rfl hS ?_
 try simp only [pX]
 refine rH 5 rfl (fun K hK=>?_)
 (rw [if_pos (by rfl)];refine oper_store_one 3 (.tmp 78) (.tmp 75) rfl w3.heap.size 5 (.int .i64 p) rfl rfl rfl rfl _ (nN 8 a 0 0 0 0 0 0 0 none 0 0 none 0 0 0 0 0 0 0 0 0 0) (nN 8 a 0 0 0 p 0 0 0 none 0 0 none 0 0 0 0 0 0 0 0 0 0) BM5.drew (by simp) (by kernel_rfl) rfl ?_;intro w6 BM6 g6;have BN6:=(hS.2.2.1).away g6 (by omega);refine hK.out _ _ ⟨BN6.cell 5,BN6.cell 7,BN6,(hS.2.2.2).grown g6 (hS.2.2.2).size (fun k h=>by have:=Option.some.inj h;omega)⟩ (fun hS=>?_))
 clear hK K
 try simp only [pX]
 refine kH 6 rfl hS ?_
 try simp only [pX]
 refine rH 7 rfl (fun K hK=>?_)
 (rw [if_pos (by rfl)];refine oper_store_one 39 (.tmp 79) (.tmp 77) rfl w3.heap.size 7 (.int .i8 za) rfl rfl rfl rfl _ (nN 8 a 0 0 0 p 0 0 0 none 0 0 none 0 0 0 0 0 0 0 0 0 0) (nN 8 a 0 0 0 p 0 za 0 none 0 0 none 0 0 0 0 0 0 0 0 0 0) BM6 (by simp) (by kernel_rfl) rfl ?_;intro w7 BM7 g7;have BN7:=(hS.2.2.1).away g7 (by omega);refine hK.out _ _ ⟨BN7.cell 5,BN7.cell 7,BN7,(hS.2.2.2).grown g7 (hS.2.2.2).size (fun k h=>by have:=Option.some.inj h;omega)⟩ (fun hS=>?_))
 clear hK K
 try simp only [pX]
 refine wpAnyH_done (by kernel_rfl) ?_ _
 replace FR:=zH (Far.mk (hS.2.2.2))
 replace BN:=zH (hS.2.2.1)
 clear hS BN6 BN7
 replace HW:=zH (HW.out.draw)
 replace HB:=zH (HB.out.draw)
 replace BR:=zH (BR.out.draw)
 replace HW:=zH (HW.out.away g6 (by omega))
 replace HB:=zH (HB.out.away g6 (by omega))
 replace BR:=zH (BR.out.away g6 (by omega))
 clear g6
 replace HW:=zH (HW.out.away g7 (by omega))
 replace HB:=zH (HB.out.away g7 (by omega))
 replace BR:=zH (BR.out.away g7 (by omega))
 clear g7
 clear BM6
 have cN0:=BN.out.cell 0
 go_wp2_with (first
  | (go_at_call 72;refine (SC.out _).mono ?_;rintro e w' ⟨rfl,rfl⟩)
  | (refine wpList_load_row rfl 44 (.tmp 3) rfl w3.heap.size rfl _ _ (0,0) _ BM7.heap Tryz.underlying44 rfl (by kernel_rfl) ?_)
  | (refine wpList_store_all rfl 44 (.tmp 2) (.tmp 95) rfl w1.heap.size (nN 8 a 0 0 0 p 0 za 0 none 0 0 none 0 0 0 0 0 0 0 0 0 0) rfl rfl _ _ BR.out rfl (by kernel_rfl) (by simp [Value.oneCell']) ?_;intro wz BZ gz))
 clear cN0
 replace FR:=zH (FR.out.away gz (by have:=lr0.out;omega))
 refine ret_cell rfl BZ rfl Tryz.underlying44 (by kernel_rfl) rfl ⟨none,0,0,none,0,0,rfl,Sl.nil _ _ _,Sl.nil _ _ _,FR.out.out⟩
set_option maxHeartbeats 8000000 in
theorem plain_9 (a b k s p out za zb qm qs qz rm rs rz lo hi:Int) (wl bl:List Int) (W:Option Addr) (nw cw:Nat) (B:Option Addr) (nb cb:Nat) (w:World) (hw:Sl (tInt .i8) w (blo w.heap.size) W nw cw wl) (hb:Sl (tInt .i32) w (blo w.heap.size) B nb cb bl) (mw:nw≤1048576) (mb:nb≤1048576) :
  Calls Tryz.prog 71 #[.agg (nN 9 a b k s p out za zb W nw cw B nb cb qm qs qz rm rs rz lo hi)] w (RetNode ⟨9,a,0,0,0,0,0,0,0,[],[],0,0,0,0,0,0,0,0⟩ w):=by
 have HW:=zH (Old.now hw)
 have HB:=zH (Old.now hb)
 clear hw hb
 have SC:=zH (fun w=>scaledK_any 9 w)
 rw [show scaledK 9=false from rfl] at SC
 have NM:=zH (fun w=>kname_any 9 w)
 have FR:=zH (Far.refl w)
 obtain ⟨w1,hw_w1,BN,k_w1⟩:=nB w (nN 9 a b k s p out za zb W nw cw B nb cb qm qs qz rm rs rz lo hi) 44
 replace FR:=zH (FR.out.fut k_w1)
 replace HW:=zH (HW.out.fut k_w1)
 replace HB:=zH (HB.out.fut k_w1)
 clear k_w1
 obtain ⟨w2,hw_w2,BR,k_w2⟩:=nB w1 (nN 0 0 0 0 0 0 0 0 0 none 0 0 none 0 0 0 0 0 0 0 0 0 0) 44
 replace FR:=zH (FR.out.fut k_w2)
 replace HW:=zH (HW.out.fut k_w2)
 replace HB:=zH (HB.out.fut k_w2)
 replace BN:=zH (BN.out.fut k_w2)
 clear k_w2
 have cN0:=BN.out.cell 0
 have cN1:=BN.out.cell 1
 go_enter Tryz.func71,Tryz.ntmps71
 go_wp2_with fail
 have lr0:=zH (show w.heap.size≤w1.heap.size by rw [← hw_w1];simp)
 clear hw_w1 hw_w2
 refine (NM.out _).mono ?_
 rintro e w3 ⟨rfl,hb⟩
 have tn:(nameOf 9).toList.isEmpty=false:=by rw [ByteArray.toList_eq];rfl
 clear cN0 cN1
 replace FR:=zH (FR.out.fut hb)
 replace HW:=zH (HW.out.fut hb)
 replace HB:=zH (HB.out.fut hb)
 replace BN:=zH (BN.out.fut hb)
 replace BR:=zH (BR.out.fut hb)
 clear hb
 have ln:w.heap.size < w3.heap.size:=BN.out.lt
 have lr:w1.heap.size < w3.heap.size:=BR.out.lt
 have cN0:=BN.out.cell 0
 have cN1:=BN.out.cell 1
 obtain ⟨w4,hw_w4,BM,k_w4⟩:=nB w3 (nN 0 0 0 0 0 0 0 0 0 none 0 0 none 0 0 0 0 0 0 0 0 0 0) 44
 replace FR:=zH (FR.out.fut k_w4)
 replace HW:=zH (HW.out.fut k_w4)
 replace HB:=zH (HB.out.fut k_w4)
 replace BN:=zH (BN.out.fut k_w4)
 replace BR:=zH (BR.out.fut k_w4)
 clear k_w4
 go_wp2_with (refine wpList_store_all rfl 44 (.tmp 3) (.tmp 13) rfl w3.heap.size (nN 9 a 0 0 0 0 0 0 0 none 0 0 none 0 0 0 0 0 0 0 0 0 0) rfl rfl _ _ BM.out rfl (by kernel_rfl) (by simp [Value.oneCell']) ?_;intro w5 BM5 g5;have cM0:=(BN.out.away g5 (by omega)).cell 0)
 clear hw_w4 cM0
 clear cN0 cN1
 replace FR:=zH (FR.out.away g5 (by omega))
 replace HW:=zH (HW.out.away g5 (by omega))
 replace HB:=zH (HB.out.away g5 (by omega))
 replace BN:=zH (BN.out.away g5 (by omega))
 replace BR:=zH (BR.out.away g5 (by omega))
 clear g5
 have cN0:=BN.out.cell 0
 go_wp2_with (first
  | (go_at_call 72;refine (SC.out _).mono ?_;rintro e w' ⟨rfl,rfl⟩)
  | (refine wpList_load_row rfl 44 (.tmp 3) rfl w3.heap.size rfl _ _ (0,0) _ BM5.heap Tryz.underlying44 rfl (by kernel_rfl) ?_)
  | (refine wpList_store_all rfl 44 (.tmp 2) (.tmp 95) rfl w1.heap.size (nN 9 a 0 0 0 0 0 0 0 none 0 0 none 0 0 0 0 0 0 0 0 0 0) rfl rfl _ _ BR.out rfl (by kernel_rfl) (by simp [Value.oneCell']) ?_;intro wz BZ gz))
 clear cN0
 replace FR:=zH (FR.out.away gz (by have:=lr0.out;omega))
 refine ret_cell rfl BZ rfl Tryz.underlying44 (by kernel_rfl) rfl ⟨none,0,0,none,0,0,rfl,Sl.nil _ _ _,Sl.nil _ _ _,FR.out.out⟩
set_option maxHeartbeats 8000000 in
theorem dense25_any (h v c:Int) (d:Node) (W:Option Addr) (nw cw:Nat) (B:Option Addr) (nb cb:Nat) (w:World) (h0:InK .i64 h) (h1:InK .i64 v) (h2:InK .i64 c) (hout:InK .i64 d.out) (hnw:nw=d.w.length) (hnb:nb=d.bias.length) (mw:nw≤1048576) (mb:nb≤1048576) :
  Calls Tryz.prog 76 #[.agg #[.int .i64 h,.int .i64 v,.int .i64 c],.agg (nN d.kind d.a d.b d.k d.s d.p d.out d.za d.zb W nw cw B nb cb d.qm d.qs d.qz d.rm d.rs d.rz d.lo d.hi)] w fun e w'=>e=retS (denseV h v c d)∧Below w.heap.size w w':=by
 obtain ⟨r,hr⟩:∃ r,denseV h v c d=r:=⟨_,rfl⟩
 rw [hr]
 unfold denseV at hr
 rw [← hnw,← hnb] at hr
 have VV:=zH hr.symm
 have RI:=zH (fun w=>shapeRight_any h c v w h0 h1 h2)
 have RT:=zH (fun w=>shapeRight_any 1 d.out 1 w (by decide) (by decide) hout)
 have RE:=zH (fun w=>elems_any h c v w h0 h1 h2)
 have m0:=elems_range h v c
 have q0:=elems_range 1 1 d.out
 have qb:=zH (elems_bd (h:=1) (v:=1) (c:=d.out))
 obtain ⟨m,hm⟩:∃ m,elems h v c=m:=⟨_,rfl⟩
 obtain ⟨q,hq⟩:∃ q,elems 1 1 d.out=q:=⟨_,rfl⟩
 rw [hm] at VV RI RE m0
 rw [hq] at VV RT q0 qb
 clear hr h0 h1 h2 hout hnw hnb hm hq
 have FR:=zH (Far.refl w)
 obtain ⟨w1,hw_w1,BA,k_w1⟩:=nB w #[.int .i64 h,.int .i64 v,.int .i64 c] 24
 replace FR:=zH (FR.out.fut k_w1)
 clear k_w1
 obtain ⟨w2,hw_w2,BN,k_w2⟩:=nB w1 (nN d.kind d.a d.b d.k d.s d.p d.out d.za d.zb W nw cw B nb cb d.qm d.qs d.qz d.rm d.rs d.rz d.lo d.hi) 44
 replace FR:=zH (FR.out.fut k_w2)
 replace BA:=zH (BA.out.fut k_w2)
 clear k_w2
 obtain ⟨w3,hw_w3,BR,k_w3⟩:=nB w2 #[.int .i64 0,.int .i64 0,.int .i64 0] 24
 replace FR:=zH (FR.out.fut k_w3)
 replace BA:=zH (BA.out.fut k_w3)
 replace BN:=zH (BN.out.fut k_w3)
 clear k_w3
 have l1:w.heap.size < w1.heap.size:=by rw [← hw_w1];simp
 have l2:w1.heap.size < w2.heap.size:=by rw [← hw_w2];simp
 have l3:w2.heap.size < w3.heap.size:=by rw [← hw_w3];simp
 have n6:=BN.out.cell 6
 obtain ⟨w4,hw_w4,BT,k_w4⟩:=nB w3 #[.int .i64 0,.int .i64 0,.int .i64 0] 24
 replace FR:=zH (FR.out.fut k_w4)
 replace BA:=zH (BA.out.fut k_w4)
 replace BN:=zH (BN.out.fut k_w4)
 replace BR:=zH (BR.out.fut k_w4)
 clear k_w4
 by_cases c1:m=0
 ·have m_:decide (0 < m)=false:=by simp;omega
  have R:=zH (show r=noS 5 by rw [VV.out,if_pos (.inl c1)])
  clear c1 VV m0 q0 qb
  go_enter Tryz.func76,Tryz.ntmps76
  go_wp2_with (first
   | (refine wpList_store_all rfl 24 (.tmp 6) (.tmp 9) rfl w3.heap.size #[.int .i64 1,.int .i64 1,.int .i64 d.out] rfl rfl _ _ BT.out rfl (by kernel_rfl) (by simp [Value.oneCell']) ?_;intro w5 BT6 g6;have BA5:=zH (BA.out.away g6 (by omega));have BN5:=zH (BN.out.away g6 (by omega));have BR5:=zH (BR.out.away g6 (by omega));have FR5:=zH (FR.out.away g6 (by omega));have BT5:=zH BT6)
   | (refine wpList_load_row rfl 24 (.tmp 2) rfl w.heap.size rfl _ _ (0,0) _ BA5.out.heap Tryz.underlying24 rfl (by kernel_rfl) ?_))
  clear hw_w1 hw_w2 hw_w3 hw_w4 n6 g6 BT6 FR BA BN BR BT
  refine (RI.out _).mono ?_
  rintro e w6 ⟨rfl,hb⟩
  replace FR5:=zH (FR5.out.fut hb)
  replace BA5:=zH (BA5.out.fut hb)
  replace BN5:=zH (BN5.out.fut hb)
  replace BR5:=zH (BR5.out.fut hb)
  replace BT5:=zH (BT5.out.fut hb)
  clear hb
  go_wp2_with (first
   | (refine wpList_store_all rfl 24 (.tmp 4) (.tmp 18) rfl w2.heap.size #[.int .i64 0,.int .i64 0,.int .i64 0] rfl rfl _ _ BR5.out rfl (by kernel_rfl) (by simp [Value.oneCell']) ?_;intro w7 BR7 g7))
  refine ret_cell_tmp rfl BR7 rfl Tryz.underlying24 (by kernel_rfl) rfl ⟨by rw [R.out];rfl,(FR5.out.away g7 (by omega)).out⟩
 have m_:decide (0 < m)=true:=by simp;omega
 by_cases c2:q=0
 ·have q_:decide (0 < q)=false:=by simp;omega
  have R:=zH (show r=noS 5 by rw [VV.out,if_pos (.inr c2)])
  clear c1 c2 VV m0 q0 qb
  go_enter Tryz.func76,Tryz.ntmps76
  go_wp2_with (first
   | (refine wpList_store_all rfl 24 (.tmp 6) (.tmp 9) rfl w3.heap.size #[.int .i64 1,.int .i64 1,.int .i64 d.out] rfl rfl _ _ BT.out rfl (by kernel_rfl) (by simp [Value.oneCell']) ?_;intro w5 BT6 g6;have BA5:=zH (BA.out.away g6 (by omega));have BN5:=zH (BN.out.away g6 (by omega));have BR5:=zH (BR.out.away g6 (by omega));have FR5:=zH (FR.out.away g6 (by omega));have BT5:=zH BT6)
   | (refine wpList_load_row rfl 24 (.tmp 2) rfl w.heap.size rfl _ _ (0,0) _ BA5.out.heap Tryz.underlying24 rfl (by kernel_rfl) ?_))
  clear hw_w1 hw_w2 hw_w3 hw_w4 n6 g6 BT6 FR BA BN BR BT
  refine (RI.out _).mono ?_
  rintro e w6 ⟨rfl,hb⟩
  replace FR5:=zH (FR5.out.fut hb)
  replace BA5:=zH (BA5.out.fut hb)
  replace BN5:=zH (BN5.out.fut hb)
  replace BR5:=zH (BR5.out.fut hb)
  replace BT5:=zH (BT5.out.fut hb)
  clear hb
  have u0:=BT5.out.cell 0
  have u1:=BT5.out.cell 1
  have u2:=BT5.out.cell 2
  go_wp2_with fail
  clear u0 u1 u2
  refine (RT.out _).mono ?_
  rintro e w8 ⟨rfl,hb⟩
  replace FR5:=zH (FR5.out.fut hb)
  replace BA5:=zH (BA5.out.fut hb)
  replace BN5:=zH (BN5.out.fut hb)
  replace BR5:=zH (BR5.out.fut hb)
  replace BT5:=zH (BT5.out.fut hb)
  clear hb
  go_wp2_with (first
   | (refine wpList_store_all rfl 24 (.tmp 4) (.tmp 18) rfl w2.heap.size #[.int .i64 0,.int .i64 0,.int .i64 0] rfl rfl _ _ BR5.out rfl (by kernel_rfl) (by simp [Value.oneCell']) ?_;intro w7 BR7 g7))
  refine ret_cell_tmp rfl BR7 rfl Tryz.underlying24 (by kernel_rfl) rfl ⟨by rw [R.out];rfl,(FR5.out.away g7 (by omega)).out⟩
 have q_:decide (0 < q)=true:=by simp;omega
 have ob:=qb.out c2
 obtain ⟨m1,hm1⟩:∃ x,d.out*m=x:=⟨_,rfl⟩
 have b1:=prod_bd (a:=d.out) (b:=m) (m:=1024) (n:=1024) (by omega) (by omega) (by omega) (by omega) (by omega)
 have e1:IntKind.i64.wrap (d.out*m)=m1:=by rw [← hm1];exact IntWalk.i64_in _ (by omega)
 have V2:=zH (show r=(if ¬ (nw:Int)=m1 ∨ 16384 < nw ∨ ¬ (nb:Int)=d.out then noS 9 else ((1,1,d.out),0)) by rw [VV.out,if_neg (by omega),hm1])
 clear VV c1 c2 m0 q0 qb ob b1 hm1
 by_cases p1:(nw:Int)=m1
 rotate_left
 ·have t1:((nw:Int) != m1)=true:=by simpa using p1
  have R:=zH (show r=noS 9 by rw [V2.out,if_pos (.inl p1)])
  clear V2 p1
  go_enter Tryz.func76,Tryz.ntmps76
  go_wp2_with (first
   | (refine wpList_store_all rfl 24 (.tmp 6) (.tmp 9) rfl w3.heap.size #[.int .i64 1,.int .i64 1,.int .i64 d.out] rfl rfl _ _ BT.out rfl (by kernel_rfl) (by simp [Value.oneCell']) ?_;intro w5 BT6 g6;have BA5:=zH (BA.out.away g6 (by omega));have BN5:=zH (BN.out.away g6 (by omega));have BR5:=zH (BR.out.away g6 (by omega));have FR5:=zH (FR.out.away g6 (by omega));have BT5:=zH BT6)
   | (refine wpList_load_row rfl 24 (.tmp 2) rfl w.heap.size rfl _ _ (0,0) _ BA5.out.heap Tryz.underlying24 rfl (by kernel_rfl) ?_))
  clear hw_w1 hw_w2 hw_w3 hw_w4 n6 g6 BT6 FR BA BN BR BT
  refine (RI.out _).mono ?_
  rintro e w6 ⟨rfl,hb⟩
  replace FR5:=zH (FR5.out.fut hb)
  replace BA5:=zH (BA5.out.fut hb)
  replace BN5:=zH (BN5.out.fut hb)
  replace BR5:=zH (BR5.out.fut hb)
  replace BT5:=zH (BT5.out.fut hb)
  clear hb
  have u0:=BT5.out.cell 0
  have u1:=BT5.out.cell 1
  have u2:=BT5.out.cell 2
  go_wp2_with fail
  clear u0 u1 u2
  refine (RT.out _).mono ?_
  rintro e w8 ⟨rfl,hb⟩
  replace FR5:=zH (FR5.out.fut hb)
  replace BA5:=zH (BA5.out.fut hb)
  replace BN5:=zH (BN5.out.fut hb)
  replace BR5:=zH (BR5.out.fut hb)
  replace BT5:=zH (BT5.out.fut hb)
  clear hb
  go_wp2_with fail
  have y2:=fun (x:Ext w8)=>(BA5.out.ext x).cell 2
  have y0:=fun (x:Ext w8)=>(BA5.out.ext x).cell 0
  have y1:=fun (x:Ext w8)=>(BA5.out.ext x).cell 1
  have z6:=fun (x:Ext w8)=>(BN5.out.ext x).cell 6
  have z9:=fun (x:Ext w8)=>(BN5.out.ext x).cell 9
  have z10:=fun (x:Ext w8)=>(BN5.out.ext x).cell 10
  have E1:=zH (fun x:Ext w8=>calls_ext x (RE.out x.1))
  refine wp_region_ext w8 (by kernel_rfl) (by kernel_rfl) (Below.refl _ _) ?_
  repeat (go_big_quiet_step (exact E1.out _))
  refine wpQuiet_nil ?_
  rintro w9 ⟨x,hx⟩
  have hb:Below w8.heap.size w8 w9:=by rw [hx];exact x.2
  clear y0 y1 y2 z6 z9 z10 E1 hx x
  replace FR5:=zH (FR5.out.fut hb)
  replace BA5:=zH (BA5.out.fut hb)
  replace BN5:=zH (BN5.out.fut hb)
  replace BR5:=zH (BR5.out.fut hb)
  replace BT5:=zH (BT5.out.fut hb)
  clear hb
  try dsimp only
  go_wp2_with (first
   | (refine wpList_store_all rfl 24 (.tmp 4) (.tmp 42) rfl w2.heap.size #[.int .i64 0,.int .i64 0,.int .i64 0] rfl rfl _ _ BR5.out rfl (by kernel_rfl) (by simp [Value.oneCell']) ?_;intro w7 BR7 g7))
  refine ret_cell_tmp rfl BR7 rfl Tryz.underlying24 (by kernel_rfl) rfl ⟨by rw [R.out];rfl,(FR5.out.away g7 (by omega)).out⟩
 have t1:((nw:Int) != m1)=false:=by simpa using p1
 have P1:=zH p1
 clear p1
 by_cases p2:16384 < nw
 ·have t2:decide (16384 < (nw:Int))=true:=by simp;omega
  have R:=zH (show r=noS 9 by rw [V2.out,if_pos (.inr (.inl p2))])
  clear V2 p2
  go_enter Tryz.func76,Tryz.ntmps76
  go_wp2_with (first
   | (refine wpList_store_all rfl 24 (.tmp 6) (.tmp 9) rfl w3.heap.size #[.int .i64 1,.int .i64 1,.int .i64 d.out] rfl rfl _ _ BT.out rfl (by kernel_rfl) (by simp [Value.oneCell']) ?_;intro w5 BT6 g6;have BA5:=zH (BA.out.away g6 (by omega));have BN5:=zH (BN.out.away g6 (by omega));have BR5:=zH (BR.out.away g6 (by omega));have FR5:=zH (FR.out.away g6 (by omega));have BT5:=zH BT6)
   | (refine wpList_load_row rfl 24 (.tmp 2) rfl w.heap.size rfl _ _ (0,0) _ BA5.out.heap Tryz.underlying24 rfl (by kernel_rfl) ?_))
  clear hw_w1 hw_w2 hw_w3 hw_w4 n6 g6 BT6 FR BA BN BR BT
  refine (RI.out _).mono ?_
  rintro e w6 ⟨rfl,hb⟩
  replace FR5:=zH (FR5.out.fut hb)
  replace BA5:=zH (BA5.out.fut hb)
  replace BN5:=zH (BN5.out.fut hb)
  replace BR5:=zH (BR5.out.fut hb)
  replace BT5:=zH (BT5.out.fut hb)
  clear hb
  have u0:=BT5.out.cell 0
  have u1:=BT5.out.cell 1
  have u2:=BT5.out.cell 2
  go_wp2_with fail
  clear u0 u1 u2
  refine (RT.out _).mono ?_
  rintro e w8 ⟨rfl,hb⟩
  replace FR5:=zH (FR5.out.fut hb)
  replace BA5:=zH (BA5.out.fut hb)
  replace BN5:=zH (BN5.out.fut hb)
  replace BR5:=zH (BR5.out.fut hb)
  replace BT5:=zH (BT5.out.fut hb)
  clear hb
  go_wp2_with fail
  have y2:=fun (x:Ext w8)=>(BA5.out.ext x).cell 2
  have y0:=fun (x:Ext w8)=>(BA5.out.ext x).cell 0
  have y1:=fun (x:Ext w8)=>(BA5.out.ext x).cell 1
  have z6:=fun (x:Ext w8)=>(BN5.out.ext x).cell 6
  have z9:=fun (x:Ext w8)=>(BN5.out.ext x).cell 9
  have z10:=fun (x:Ext w8)=>(BN5.out.ext x).cell 10
  have E1:=zH (fun x:Ext w8=>calls_ext x (RE.out x.1))
  refine wp_region_ext w8 (by kernel_rfl) (by kernel_rfl) (Below.refl _ _) ?_
  repeat (go_big_quiet_step (exact E1.out _))
  refine wpQuiet_nil ?_
  rintro w9 ⟨x,hx⟩
  have hb:Below w8.heap.size w8 w9:=by rw [hx];exact x.2
  clear y0 y1 y2 z6 z9 z10 E1 hx x
  replace FR5:=zH (FR5.out.fut hb)
  replace BA5:=zH (BA5.out.fut hb)
  replace BN5:=zH (BN5.out.fut hb)
  replace BR5:=zH (BR5.out.fut hb)
  replace BT5:=zH (BT5.out.fut hb)
  clear hb
  try dsimp only
  go_wp2_with (first
   | (refine wpList_store_all rfl 24 (.tmp 4) (.tmp 42) rfl w2.heap.size #[.int .i64 0,.int .i64 0,.int .i64 0] rfl rfl _ _ BR5.out rfl (by kernel_rfl) (by simp [Value.oneCell']) ?_;intro w7 BR7 g7))
  refine ret_cell_tmp rfl BR7 rfl Tryz.underlying24 (by kernel_rfl) rfl ⟨by rw [R.out];rfl,(FR5.out.away g7 (by omega)).out⟩
 have t2:decide (16384 < (nw:Int))=false:=by simp;omega
 have P2:=zH p2
 clear p2
 by_cases p3:(nb:Int)=d.out
 rotate_left
 ·have t3:((nb:Int) != d.out)=true:=by simpa using p3
  have R:=zH (show r=noS 9 by rw [V2.out,if_pos (.inr (.inr p3))])
  clear V2 p3
  go_enter Tryz.func76,Tryz.ntmps76
  go_wp2_with (first
   | (refine wpList_store_all rfl 24 (.tmp 6) (.tmp 9) rfl w3.heap.size #[.int .i64 1,.int .i64 1,.int .i64 d.out] rfl rfl _ _ BT.out rfl (by kernel_rfl) (by simp [Value.oneCell']) ?_;intro w5 BT6 g6;have BA5:=zH (BA.out.away g6 (by omega));have BN5:=zH (BN.out.away g6 (by omega));have BR5:=zH (BR.out.away g6 (by omega));have FR5:=zH (FR.out.away g6 (by omega));have BT5:=zH BT6)
   | (refine wpList_load_row rfl 24 (.tmp 2) rfl w.heap.size rfl _ _ (0,0) _ BA5.out.heap Tryz.underlying24 rfl (by kernel_rfl) ?_))
  clear hw_w1 hw_w2 hw_w3 hw_w4 n6 g6 BT6 FR BA BN BR BT
  refine (RI.out _).mono ?_
  rintro e w6 ⟨rfl,hb⟩
  replace FR5:=zH (FR5.out.fut hb)
  replace BA5:=zH (BA5.out.fut hb)
  replace BN5:=zH (BN5.out.fut hb)
  replace BR5:=zH (BR5.out.fut hb)
  replace BT5:=zH (BT5.out.fut hb)
  clear hb
  have u0:=BT5.out.cell 0
  have u1:=BT5.out.cell 1
  have u2:=BT5.out.cell 2
  go_wp2_with fail
  clear u0 u1 u2
  refine (RT.out _).mono ?_
  rintro e w8 ⟨rfl,hb⟩
  replace FR5:=zH (FR5.out.fut hb)
  replace BA5:=zH (BA5.out.fut hb)
  replace BN5:=zH (BN5.out.fut hb)
  replace BR5:=zH (BR5.out.fut hb)
  replace BT5:=zH (BT5.out.fut hb)
  clear hb
  go_wp2_with fail
  have y2:=fun (x:Ext w8)=>(BA5.out.ext x).cell 2
  have y0:=fun (x:Ext w8)=>(BA5.out.ext x).cell 0
  have y1:=fun (x:Ext w8)=>(BA5.out.ext x).cell 1
  have z6:=fun (x:Ext w8)=>(BN5.out.ext x).cell 6
  have z9:=fun (x:Ext w8)=>(BN5.out.ext x).cell 9
  have z10:=fun (x:Ext w8)=>(BN5.out.ext x).cell 10
  have E1:=zH (fun x:Ext w8=>calls_ext x (RE.out x.1))
  refine wp_region_ext w8 (by kernel_rfl) (by kernel_rfl) (Below.refl _ _) ?_
  repeat (go_big_quiet_step (exact E1.out _))
  refine wpQuiet_nil ?_
  rintro w9 ⟨x,hx⟩
  have hb:Below w8.heap.size w8 w9:=by rw [hx];exact x.2
  clear y0 y1 y2 z6 z9 z10 E1 hx x
  replace FR5:=zH (FR5.out.fut hb)
  replace BA5:=zH (BA5.out.fut hb)
  replace BN5:=zH (BN5.out.fut hb)
  replace BR5:=zH (BR5.out.fut hb)
  replace BT5:=zH (BT5.out.fut hb)
  clear hb
  try dsimp only
  go_wp2_with (first
   | (refine wpList_store_all rfl 24 (.tmp 4) (.tmp 42) rfl w2.heap.size #[.int .i64 0,.int .i64 0,.int .i64 0] rfl rfl _ _ BR5.out rfl (by kernel_rfl) (by simp [Value.oneCell']) ?_;intro w7 BR7 g7))
  refine ret_cell_tmp rfl BR7 rfl Tryz.underlying24 (by kernel_rfl) rfl ⟨by rw [R.out];rfl,(FR5.out.away g7 (by omega)).out⟩
 have t3:((nb:Int) != d.out)=false:=by simpa using p3
 have R:=zH (show r=((1,1,d.out),0) by rw [V2.out,if_neg (by rintro (h|h|h);exact h P1.out;exact P2.out h;exact h p3)])
 clear V2 p3
 go_enter Tryz.func76,Tryz.ntmps76
 go_wp2_with (first
  | (refine wpList_store_all rfl 24 (.tmp 6) (.tmp 9) rfl w3.heap.size #[.int .i64 1,.int .i64 1,.int .i64 d.out] rfl rfl _ _ BT.out rfl (by kernel_rfl) (by simp [Value.oneCell']) ?_;intro w5 BT6 g6;have BA5:=zH (BA.out.away g6 (by omega));have BN5:=zH (BN.out.away g6 (by omega));have BR5:=zH (BR.out.away g6 (by omega));have FR5:=zH (FR.out.away g6 (by omega));have BT5:=zH BT6)
  | (refine wpList_load_row rfl 24 (.tmp 2) rfl w.heap.size rfl _ _ (0,0) _ BA5.out.heap Tryz.underlying24 rfl (by kernel_rfl) ?_))
 clear hw_w1 hw_w2 hw_w3 hw_w4 n6 g6 BT6 FR BA BN BR BT
 refine (RI.out _).mono ?_
 rintro e w6 ⟨rfl,hb⟩
 replace FR5:=zH (FR5.out.fut hb)
 replace BA5:=zH (BA5.out.fut hb)
 replace BN5:=zH (BN5.out.fut hb)
 replace BR5:=zH (BR5.out.fut hb)
 replace BT5:=zH (BT5.out.fut hb)
 clear hb
 have u0:=BT5.out.cell 0
 have u1:=BT5.out.cell 1
 have u2:=BT5.out.cell 2
 go_wp2_with fail
 clear u0 u1 u2
 refine (RT.out _).mono ?_
 rintro e w8 ⟨rfl,hb⟩
 replace FR5:=zH (FR5.out.fut hb)
 replace BA5:=zH (BA5.out.fut hb)
 replace BN5:=zH (BN5.out.fut hb)
 replace BR5:=zH (BR5.out.fut hb)
 replace BT5:=zH (BT5.out.fut hb)
 clear hb
 go_wp2_with fail
 have y2:=fun (x:Ext w8)=>(BA5.out.ext x).cell 2
 have y0:=fun (x:Ext w8)=>(BA5.out.ext x).cell 0
 have y1:=fun (x:Ext w8)=>(BA5.out.ext x).cell 1
 have z6:=fun (x:Ext w8)=>(BN5.out.ext x).cell 6
 have z9:=fun (x:Ext w8)=>(BN5.out.ext x).cell 9
 have z10:=fun (x:Ext w8)=>(BN5.out.ext x).cell 10
 have E1:=zH (fun x:Ext w8=>calls_ext x (RE.out x.1))
 refine wp_region_ext w8 (by kernel_rfl) (by kernel_rfl) (Below.refl _ _) ?_
 repeat (go_big_quiet_step (exact E1.out _))
 refine wpQuiet_nil ?_
 rintro w9 ⟨x,hx⟩
 have hb:Below w8.heap.size w8 w9:=by rw [hx];exact x.2
 clear y0 y1 y2 z6 z9 z10 E1 hx x
 replace FR5:=zH (FR5.out.fut hb)
 replace BA5:=zH (BA5.out.fut hb)
 replace BN5:=zH (BN5.out.fut hb)
 replace BR5:=zH (BR5.out.fut hb)
 replace BT5:=zH (BT5.out.fut hb)
 clear hb
 try dsimp only
 go_wp2_with (first
  | (refine wpList_load_row rfl 24 (.tmp 6) rfl w3.heap.size rfl _ _ (0,0) _ BT5.out.heap Tryz.underlying24 rfl (by kernel_rfl) ?_)
  | (refine wpList_store_all rfl 24 (.tmp 4) (.tmp 43) rfl w2.heap.size #[.int .i64 1,.int .i64 1,.int .i64 d.out] rfl rfl _ _ BR5.out rfl (by kernel_rfl) (by simp [Value.oneCell']) ?_;intro w7 BR7 g7))
 refine ret_cell_tmp rfl BR7 rfl Tryz.underlying24 (by kernel_rfl) rfl ⟨by rw [R.out];rfl,(FR5.out.away g7 (by omega)).out⟩
set_option maxHeartbeats 8000000 in
theorem karound_any (h v c p:Int) (w:World) (hb:1≤h∧h≤16∧1≤v∧v≤16∧1≤c∧c≤1024) (hp:InK .i64 p) :
  Calls Tryz.prog 108 #[.agg #[.int .i64 h,.int .i64 v,.int .i64 c],.int .i64 p] w fun e w'=>e=retS (aroundV h v c p)∧Below w.heap.size w w':=by
 obtain ⟨r,hr⟩:∃ r,aroundV h v c p=r:=⟨_,rfl⟩
 rw [hr]
 unfold aroundV at hr
 have VV:=zH hr.symm
 clear hr hp
 have FR:=zH (Far.refl w)
 obtain ⟨w1,hw_w1,BA,k_w1⟩:=nB w #[.int .i64 h,.int .i64 v,.int .i64 c] 24
 replace FR:=zH (FR.out.fut k_w1)
 clear k_w1
 obtain ⟨w2,hw_w2,BR,k_w2⟩:=nB w1 #[.int .i64 0,.int .i64 0,.int .i64 0] 24
 replace FR:=zH (FR.out.fut k_w2)
 replace BA:=zH (BA.out.fut k_w2)
 clear k_w2
 have l1:w.heap.size < w1.heap.size:=by rw [← hw_w1];simp
 have l2:w1.heap.size < w2.heap.size:=by rw [← hw_w2];simp
 by_cases c1:p < 0
 ·have t1:decide (p < 0)=true:=decide_eq_true c1
  have R:=zH (show r=noS 2 by rw [VV.out,if_pos (.inl c1)])
  clear c1 VV hb
  go_enter Tryz.func108,Tryz.ntmps108
  go_wp2_with (first
   | (refine wpList_store_all rfl 24 (.tmp 4) (.tmp 13) rfl w1.heap.size #[.int .i64 0,.int .i64 0,.int .i64 0] rfl rfl _ _ BR.out rfl (by kernel_rfl) (by simp [Value.oneCell']) ?_;intro w7 BR7 g7))
  refine ret_cell_tmp rfl BR7 rfl Tryz.underlying24 (by kernel_rfl) rfl ⟨by rw [R.out];rfl,(FR.out.away g7 (by omega)).out⟩
 have t1:decide (p < 0)=false:=decide_eq_false c1
 have p1:0≤p:=by omega
 clear c1
 by_cases c1:4 < p
 ·have t2:decide (4 < p)=true:=decide_eq_true c1
  have R:=zH (show r=noS 2 by rw [VV.out,if_pos (.inr c1)])
  clear c1 VV hb
  go_enter Tryz.func108,Tryz.ntmps108
  go_wp2_with (first
   | (refine wpList_store_all rfl 24 (.tmp 4) (.tmp 13) rfl w1.heap.size #[.int .i64 0,.int .i64 0,.int .i64 0] rfl rfl _ _ BR.out rfl (by kernel_rfl) (by simp [Value.oneCell']) ?_;intro w7 BR7 g7))
  refine ret_cell_tmp rfl BR7 rfl Tryz.underlying24 (by kernel_rfl) rfl ⟨by rw [R.out];rfl,(FR.out.away g7 (by omega)).out⟩
 have t2:decide (4 < p)=false:=decide_eq_false c1
 have p2:p≤4:=by omega
 clear c1
 have R1:=zH (fun w=>shapeRight_any (h+2*p) c (v+2*p) w (by rw [inK_i64];omega) (by rw [inK_i64];omega) (by rw [inK_i64];omega))
 have e1:IntKind.i64.wrap (2*p)=2*p:=IntWalk.i64_in _ (by omega)
 have e2:IntKind.i64.wrap (h+2*p)=h+2*p:=IntWalk.i64_in _ (by omega)
 have e3:IntKind.i64.wrap (v+2*p)=v+2*p:=IntWalk.i64_in _ (by omega)
 have m0:=(elems_range (h+2*p) (v+2*p) c).1
 have V2:=zH (show r=(if elems (h+2*p) (v+2*p) c=0 then noS 5 else ((h+2*p,v+2*p,c),0)) by rw [VV.out,if_neg (by omega)])
 obtain ⟨m,hm⟩:∃ m,elems (h+2*p) (v+2*p) c=m:=⟨_,rfl⟩
 rw [hm] at V2 R1 m0
 clear VV hm hb p1 p2
 have a0:=BA.out.cell 0
 have a1:=BA.out.cell 1
 have a2:=BA.out.cell 2
 obtain ⟨w3,hw_w3,BT,k_w3⟩:=nB w2 #[.int .i64 0,.int .i64 0,.int .i64 0] 24
 replace FR:=zH (FR.out.fut k_w3)
 replace BA:=zH (BA.out.fut k_w3)
 replace BR:=zH (BR.out.fut k_w3)
 clear k_w3
 by_cases c3:m=0
 ·have t3:decide (0 < m)=false:=by simp;omega
  have R:=zH (show r=noS 5 by rw [V2.out,if_pos c3])
  clear V2 c3 m0
  go_enter Tryz.func108,Tryz.ntmps108
  go_wp2_with (first
   | (refine wpList_store_all rfl 24 (.tmp 6) (.tmp 26) rfl w2.heap.size #[.int .i64 (h+2*p),.int .i64 (v+2*p),.int .i64 c] rfl rfl _ _ BT.out rfl (by kernel_rfl) (by simp [Value.oneCell']) ?_;intro w6 BT6 g6;have BR6:=zH (BR.out.away g6 (by omega));have FR6:=zH (FR.out.away g6 (by omega)))
   | (refine wpList_load_row rfl 24 (.tmp 6) rfl w2.heap.size rfl _ _ (0,0) _ BT6.heap Tryz.underlying24 rfl (by kernel_rfl) ?_))
  clear hw_w1 hw_w2 hw_w3 a0 a1 a2
  refine (R1.out _).mono ?_
  rintro e w5 ⟨rfl,hb⟩
  have BT5:=zH (BT6.fut hb)
  replace BR6:=zH (BR6.out.fut hb)
  replace FR6:=zH (FR6.out.fut hb)
  clear hb
  go_wp2_with (first
   | (refine wpList_store_all rfl 24 (.tmp 4) (.tmp 30) rfl w1.heap.size #[.int .i64 0,.int .i64 0,.int .i64 0] rfl rfl _ _ BR6.out rfl (by kernel_rfl) (by simp [Value.oneCell']) ?_;intro w7 BR7 g7))
  refine ret_cell_tmp rfl BR7 rfl Tryz.underlying24 (by kernel_rfl) rfl ⟨by rw [R.out];rfl,(FR6.out.away g7 (by omega)).out⟩
 have t3:decide (0 < m)=true:=by simp;omega
 have R:=zH (show r=((h+2*p,v+2*p,c),0) by rw [V2.out,if_neg c3])
 clear V2 c3 m0
 go_enter Tryz.func108,Tryz.ntmps108
 go_wp2_with (first
  | (refine wpList_store_all rfl 24 (.tmp 6) (.tmp 26) rfl w2.heap.size #[.int .i64 (h+2*p),.int .i64 (v+2*p),.int .i64 c] rfl rfl _ _ BT.out rfl (by kernel_rfl) (by simp [Value.oneCell']) ?_;intro w6 BT6 g6;have BR6:=zH (BR.out.away g6 (by omega));have FR6:=zH (FR.out.away g6 (by omega)))
  | (refine wpList_load_row rfl 24 (.tmp 6) rfl w2.heap.size rfl _ _ (0,0) _ BT6.heap Tryz.underlying24 rfl (by kernel_rfl) ?_))
 clear hw_w1 hw_w2 hw_w3 a0 a1 a2
 refine (R1.out _).mono ?_
 rintro e w5 ⟨rfl,hb⟩
 have BT5:=zH (BT6.fut hb)
 replace BR6:=zH (BR6.out.fut hb)
 replace FR6:=zH (FR6.out.fut hb)
 clear hb
 go_wp2_with (first
  | (refine wpList_load_row rfl 24 (.tmp 6) rfl w2.heap.size rfl _ _ (0,0) _ BT5.out.heap Tryz.underlying24 rfl (by kernel_rfl) ?_)
  | (refine wpList_store_all rfl 24 (.tmp 4) (.tmp 31) rfl w1.heap.size #[.int .i64 (h+2*p),.int .i64 (v+2*p),.int .i64 c] rfl rfl _ _ BR6.out rfl (by kernel_rfl) (by simp [Value.oneCell']) ?_;intro w7 BR7 g7))
 refine ret_cell_tmp rfl BR7 rfl Tryz.underlying24 (by kernel_rfl) rfl ⟨by rw [R.out];rfl,(FR6.out.away g7 (by omega)).out⟩
set_option maxHeartbeats 8000000 in
theorem plainShape_any (h v c h2 v2 c2:Int) (d:Node) (W:Option Addr) (nw cw:Nat) (B:Option Addr) (nb cb:Nat) (w:World) (i0:InK .i64 h) (i1:InK .i64 v) (i2:InK .i64 c) (hout:InK .i64 d.out) (hp:InK .i64 d.p) (hnw:nw=d.w.length) (hnb:nb=d.bias.length) (mw:nw≤1048576) (mb:nb≤1048576) (hk:6≤d.kind∧d.kind≤9) :
  Calls Tryz.prog 78 #[.agg (nN d.kind d.a d.b d.k d.s d.p d.out d.za d.zb W nw cw B nb cb d.qm d.qs d.qz d.rm d.rs d.rz d.lo d.hi),.agg #[.int .i64 h,.int .i64 v,.int .i64 c],.agg #[.int .i64 h2,.int .i64 v2,.int .i64 c2]] w fun e w'=>e=retS (plainV d.kind h v c h2 v2 c2 d.p)∧Below w.heap.size w w':=by
 obtain ⟨r,hr⟩:∃ r,plainV d.kind h v c h2 v2 c2 d.p=r:=⟨_,rfl⟩
 rw [hr]
 unfold plainV at hr
 have RI:=zH (fun w=>shapeRight_any h c v w i0 i1 i2)
 have RE:=zH (fun w=>elems_any h c v w i0 i1 i2)
 have EB:=zH (elems_bd (h:=h) (v:=v) (c:=c))
 have m0:=(elems_range h v c).1
 obtain ⟨m,hm⟩:∃ m,elems h v c=m:=⟨_,rfl⟩
 obtain ⟨eq,he⟩:∃ x,([h,v,c] == [h2,v2,c2])=x:=⟨_,rfl⟩
 have QE:=zH (fun w=>eq_shape w h v c h2 v2 c2)
 rw [hm,he] at hr
 rw [hm] at RI RE EB m0
 rw [he] at QE
 have VV:=zH hr.symm
 clear hr hm he i0 i1 i2 hout hnw hnb mw mb
 have FR:=zH (Far.refl w)
 obtain ⟨w1,hw_w1,BN,k_w1⟩:=nB w (nN d.kind d.a d.b d.k d.s d.p d.out d.za d.zb W nw cw B nb cb d.qm d.qs d.qz d.rm d.rs d.rz d.lo d.hi) 44
 replace FR:=zH (FR.out.fut k_w1)
 clear k_w1
 obtain ⟨w2,hw_w2,BA,k_w2⟩:=nB w1 #[.int .i64 h,.int .i64 v,.int .i64 c] 24
 replace FR:=zH (FR.out.fut k_w2)
 replace BN:=zH (BN.out.fut k_w2)
 clear k_w2
 obtain ⟨w3,hw_w3,BB,k_w3⟩:=nB w2 #[.int .i64 h2,.int .i64 v2,.int .i64 c2] 24
 replace FR:=zH (FR.out.fut k_w3)
 replace BN:=zH (BN.out.fut k_w3)
 replace BA:=zH (BA.out.fut k_w3)
 clear k_w3
 obtain ⟨w4,hw_w4,BR,k_w4⟩:=nB w3 #[.int .i64 0,.int .i64 0,.int .i64 0] 24
 replace FR:=zH (FR.out.fut k_w4)
 replace BN:=zH (BN.out.fut k_w4)
 replace BA:=zH (BA.out.fut k_w4)
 replace BB:=zH (BB.out.fut k_w4)
 clear k_w4
 have l1:w.heap.size < w1.heap.size:=by rw [← hw_w1];simp
 have l2:w1.heap.size < w2.heap.size:=by rw [← hw_w2];simp
 have l3:w2.heap.size < w3.heap.size:=by rw [← hw_w3];simp
 have l4:w3.heap.size < w4.heap.size:=by rw [← hw_w4];simp
 by_cases c1:m=0
 ·have t1:decide (0 < m)=false:=by simp;omega
  have R:=zH (show r=noS 5 by rw [VV.out,if_pos c1])
  clear c1 VV m0 hk hp EB
  go_enter Tryz.func78,Tryz.ntmps78
  go_wp2_with (first
   | (refine wpList_load_row rfl 24 (.tmp 4) rfl w1.heap.size rfl _ _ (0,0) _ BA.out.heap Tryz.underlying24 rfl (by kernel_rfl) ?_))
  clear hw_w1 hw_w2 hw_w3 hw_w4
  refine (RI.out _).mono ?_
  rintro e w5 ⟨rfl,hb⟩
  replace FR:=zH (FR.out.fut hb)
  replace BN:=zH (BN.out.fut hb)
  replace BA:=zH (BA.out.fut hb)
  replace BB:=zH (BB.out.fut hb)
  replace BR:=zH (BR.out.fut hb)
  clear hb
  go_wp2_with (first
   | (refine wpList_store_all rfl 24 (.tmp 6) (.tmp 11) rfl w3.heap.size #[.int .i64 0,.int .i64 0,.int .i64 0] rfl rfl _ _ BR.out rfl (by kernel_rfl) (by simp [Value.oneCell']) ?_;intro w7 BR7 g7))
  refine ret_cell_tmp rfl BR7 rfl Tryz.underlying24 (by kernel_rfl) rfl ⟨by rw [R.out];rfl,(FR.out.away g7 (by omega)).out⟩
 have t1:decide (0 < m)=true:=by simp;omega
 have V2:=zH (show r=(if d.kind=6∧eq=false then noS 5 else if d.kind=8 then aroundV h v c d.p else if d.kind=9 then ((1,1,m),0) else ((h,v,c),0)) by rw [VV.out,if_neg c1])
 have AR:=zH (fun w=>karound_any h v c d.p w (EB.out c1) hp)
 clear VV c1 m0 hp EB
 rcases (show d.kind=6 ∨ d.kind=7 ∨ d.kind=8 ∨ d.kind=9 by omega) with e|e|e|e
 ·clear hk
  have k6:(d.kind == 6)=true:=by simp [e]
  have k8:(d.kind == 8)=false:=by simp [e]
  have k9:(d.kind == 9)=false:=by simp [e]
  cases eq
  case false =>
   have R:=zH (show r=noS 5 by rw [V2.out];simp [e])
   clear V2 e AR RE
   go_enter Tryz.func78,Tryz.ntmps78
   go_wp2_with (first
    | (refine wpList_load_row rfl 24 (.tmp 4) rfl w1.heap.size rfl _ _ (0,0) _ BA.out.heap Tryz.underlying24 rfl (by kernel_rfl) ?_))
   clear hw_w1 hw_w2 hw_w3 hw_w4
   refine (RI.out _).mono ?_
   rintro e w5 ⟨rfl,hb⟩
   replace FR:=zH (FR.out.fut hb)
   replace BN:=zH (BN.out.fut hb)
   replace BA:=zH (BA.out.fut hb)
   replace BB:=zH (BB.out.fut hb)
   replace BR:=zH (BR.out.fut hb)
   clear hb
   have n0:=BN.out.cell 0
   go_wp2_with (first
    | (refine wpList_load_row rfl 24 (.tmp 4) rfl w1.heap.size rfl _ _ (0,0) _ BA.out.heap Tryz.underlying24 rfl (by kernel_rfl) ?_)
    | (refine wpList_load_row rfl 24 (.tmp 5) rfl w2.heap.size rfl _ _ (0,0) _ BB.out.heap Tryz.underlying24 rfl (by kernel_rfl) ?_)
    | (refine wpList_neq_agg 24 _ (.tmp 16) (.tmp 17) rfl _ _ rfl rfl (by rfl) (by kernel_rfl) _ (QE.out _) ?_;try simp only [Bool.not_true,Bool.not_false])
    | (refine wpList_store_all rfl 24 (.tmp 6) (.tmp 19) rfl w3.heap.size #[.int .i64 0,.int .i64 0,.int .i64 0] rfl rfl _ _ BR.out rfl (by kernel_rfl) (by simp [Value.oneCell']) ?_;intro w7 BR7 g7))
   refine ret_cell_tmp rfl BR7 rfl Tryz.underlying24 (by kernel_rfl) rfl ⟨by rw [R.out];rfl,(FR.out.away g7 (by omega)).out⟩
  case true =>
   have R:=zH (show r=((h,v,c),0) by rw [V2.out];simp [e])
   clear V2 e AR RE
   go_enter Tryz.func78,Tryz.ntmps78
   go_wp2_with (first
    | (refine wpList_load_row rfl 24 (.tmp 4) rfl w1.heap.size rfl _ _ (0,0) _ BA.out.heap Tryz.underlying24 rfl (by kernel_rfl) ?_))
   clear hw_w1 hw_w2 hw_w3 hw_w4
   refine (RI.out _).mono ?_
   rintro e w5 ⟨rfl,hb⟩
   replace FR:=zH (FR.out.fut hb)
   replace BN:=zH (BN.out.fut hb)
   replace BA:=zH (BA.out.fut hb)
   replace BB:=zH (BB.out.fut hb)
   replace BR:=zH (BR.out.fut hb)
   clear hb
   have n0:=BN.out.cell 0
   go_wp2_with (first
    | (refine wpList_load_row rfl 24 (.tmp 4) rfl w1.heap.size rfl _ _ (0,0) _ BA.out.heap Tryz.underlying24 rfl (by kernel_rfl) ?_)
    | (refine wpList_load_row rfl 24 (.tmp 5) rfl w2.heap.size rfl _ _ (0,0) _ BB.out.heap Tryz.underlying24 rfl (by kernel_rfl) ?_)
    | (refine wpList_neq_agg 24 _ (.tmp 16) (.tmp 17) rfl _ _ rfl rfl (by rfl) (by kernel_rfl) _ (QE.out _) ?_;try simp only [Bool.not_true,Bool.not_false])
    | (refine wpList_store_all rfl 24 (.tmp 6) (.tmp 33) rfl w3.heap.size #[.int .i64 h,.int .i64 v,.int .i64 c] rfl rfl _ _ BR.out rfl (by kernel_rfl) (by simp [Value.oneCell']) ?_;intro w7 BR7 g7))
   refine ret_cell_tmp rfl BR7 rfl Tryz.underlying24 (by kernel_rfl) rfl ⟨by rw [R.out];rfl,(FR.out.away g7 (by omega)).out⟩
 ·clear hk
  have k6:(d.kind == 6)=false:=by simp [e]
  have k8:(d.kind == 8)=false:=by simp [e]
  have k9:(d.kind == 9)=false:=by simp [e]
  have R:=zH (show r=((h,v,c),0) by rw [V2.out];simp [e])
  clear V2 e AR RE QE
  go_enter Tryz.func78,Tryz.ntmps78
  go_wp2_with (first
   | (refine wpList_load_row rfl 24 (.tmp 4) rfl w1.heap.size rfl _ _ (0,0) _ BA.out.heap Tryz.underlying24 rfl (by kernel_rfl) ?_))
  clear hw_w1 hw_w2 hw_w3 hw_w4
  refine (RI.out _).mono ?_
  rintro e w5 ⟨rfl,hb⟩
  replace FR:=zH (FR.out.fut hb)
  replace BN:=zH (BN.out.fut hb)
  replace BA:=zH (BA.out.fut hb)
  replace BB:=zH (BB.out.fut hb)
  replace BR:=zH (BR.out.fut hb)
  clear hb
  have n0:=BN.out.cell 0
  go_wp2_with (first
   | (refine wpList_load_row rfl 24 (.tmp 4) rfl w1.heap.size rfl _ _ (0,0) _ BA.out.heap Tryz.underlying24 rfl (by kernel_rfl) ?_)
   | (refine wpList_store_all rfl 24 (.tmp 6) (.tmp 33) rfl w3.heap.size #[.int .i64 h,.int .i64 v,.int .i64 c] rfl rfl _ _ BR.out rfl (by kernel_rfl) (by simp [Value.oneCell']) ?_;intro w7 BR7 g7))
  refine ret_cell_tmp rfl BR7 rfl Tryz.underlying24 (by kernel_rfl) rfl ⟨by rw [R.out];rfl,(FR.out.away g7 (by omega)).out⟩
 ·clear hk
  have k6:(d.kind == 6)=false:=by simp [e]
  have k8:(d.kind == 8)=true:=by simp [e]
  have k9:(d.kind == 9)=false:=by simp [e]
  obtain ⟨⟨⟨x1,x2,x3⟩,xe⟩,hx⟩:∃ x,aroundV h v c d.p=x:=⟨_,rfl⟩
  rw [hx] at V2 AR
  simp only [retS] at AR
  have R:=zH (show r=((x1,x2,x3),xe) by rw [V2.out];simp [e])
  clear V2 e RE QE hx
  go_enter Tryz.func78,Tryz.ntmps78
  go_wp2_with (first
   | (refine wpList_load_row rfl 24 (.tmp 4) rfl w1.heap.size rfl _ _ (0,0) _ BA.out.heap Tryz.underlying24 rfl (by kernel_rfl) ?_))
  clear hw_w1 hw_w2 hw_w3 hw_w4
  refine (RI.out _).mono ?_
  rintro e w5 ⟨rfl,hb⟩
  replace FR:=zH (FR.out.fut hb)
  replace BN:=zH (BN.out.fut hb)
  replace BA:=zH (BA.out.fut hb)
  replace BB:=zH (BB.out.fut hb)
  replace BR:=zH (BR.out.fut hb)
  clear hb
  have n0:=BN.out.cell 0
  have n5:=BN.out.cell 5
  go_wp2_with (first
   | (refine wpList_load_row rfl 24 (.tmp 4) rfl w1.heap.size rfl _ _ (0,0) _ BA.out.heap Tryz.underlying24 rfl (by kernel_rfl) ?_))
  clear n0 n5
  refine (AR.out _).mono ?_
  rintro e w6 ⟨rfl,hb⟩
  replace FR:=zH (FR.out.fut hb)
  replace BN:=zH (BN.out.fut hb)
  replace BA:=zH (BA.out.fut hb)
  replace BB:=zH (BB.out.fut hb)
  replace BR:=zH (BR.out.fut hb)
  clear hb
  go_wp2_with (first
   | (refine wpList_store_all rfl 24 (.tmp 6) (.tmp 26) rfl w3.heap.size #[.int .i64 x1,.int .i64 x2,.int .i64 x3] rfl rfl _ _ BR.out rfl (by kernel_rfl) (by simp [Value.oneCell']) ?_;intro w7 BR7 g7))
  refine ret_cell_tmp rfl BR7 rfl Tryz.underlying24 (by kernel_rfl) rfl ⟨by rw [R.out];rfl,(FR.out.away g7 (by omega)).out⟩
 ·clear hk
  have k6:(d.kind == 6)=false:=by simp [e]
  have k8:(d.kind == 8)=false:=by simp [e]
  have k9:(d.kind == 9)=true:=by simp [e]
  have R:=zH (show r=((1,1,m),0) by rw [V2.out];simp [e])
  clear V2 e AR QE
  go_enter Tryz.func78,Tryz.ntmps78
  go_wp2_with (first
   | (refine wpList_load_row rfl 24 (.tmp 4) rfl w1.heap.size rfl _ _ (0,0) _ BA.out.heap Tryz.underlying24 rfl (by kernel_rfl) ?_))
  clear hw_w1 hw_w2 hw_w3 hw_w4
  refine (RI.out _).mono ?_
  rintro e w5 ⟨rfl,hb⟩
  replace FR:=zH (FR.out.fut hb)
  replace BN:=zH (BN.out.fut hb)
  replace BA:=zH (BA.out.fut hb)
  replace BB:=zH (BB.out.fut hb)
  replace BR:=zH (BR.out.fut hb)
  clear hb
  have n0:=BN.out.cell 0
  go_wp2_with (first
   | (refine wpList_load_row rfl 24 (.tmp 4) rfl w1.heap.size rfl _ _ (0,0) _ BA.out.heap Tryz.underlying24 rfl (by kernel_rfl) ?_))
  clear n0
  refine (RE.out _).mono ?_
  rintro e w6 ⟨rfl,hb⟩
  replace FR:=zH (FR.out.fut hb)
  replace BN:=zH (BN.out.fut hb)
  replace BA:=zH (BA.out.fut hb)
  replace BB:=zH (BB.out.fut hb)
  replace BR:=zH (BR.out.fut hb)
  clear hb
  go_wp2_with (first
   | (refine wpList_store_all rfl 24 (.tmp 6) (.tmp 32) rfl w3.heap.size #[.int .i64 1,.int .i64 1,.int .i64 m] rfl rfl _ _ BR.out rfl (by kernel_rfl) (by simp [Value.oneCell']) ?_;intro w7 BR7 g7))
  refine ret_cell_tmp rfl BR7 rfl Tryz.underlying24 (by kernel_rfl) rfl ⟨by rw [R.out];rfl,(FR.out.away g7 (by omega)).out⟩
set_option maxHeartbeats 16000000 in
theorem kshape_any (h v c h2 v2 c2:Int) (d:Node) (W:Option Addr) (nw cw:Nat) (B:Option Addr) (nb cb:Nat) (w:World) (i0:InK .i64 h) (i1:InK .i64 v) (i2:InK .i64 c) (hout:InK .i64 d.out) (hp:InK .i64 d.p) (hnw:nw=d.w.length) (hnb:nb=d.bias.length) (mw:nw≤1048576) (mb:nb≤1048576) (hk:1≤d.kind∧d.kind≤9) :
  Calls Tryz.prog 42 #[.agg (nN d.kind d.a d.b d.k d.s d.p d.out d.za d.zb W nw cw B nb cb d.qm d.qs d.qz d.rm d.rs d.rz d.lo d.hi),.agg #[.int .i64 h,.int .i64 v,.int .i64 c],.agg #[.int .i64 h2,.int .i64 v2,.int .i64 c2]] w fun e w'=>e=retS (shapeV h v c h2 v2 c2 d)∧Below w.heap.size w w':=by
 obtain ⟨r,hr⟩:∃ r,shapeV h v c h2 v2 c2 d=r:=⟨_,rfl⟩
 rw [hr]
 unfold shapeV at hr
 have VV:=zH hr.symm
 clear hr
 have FR:=zH (Far.refl w)
 obtain ⟨w1,hw_w1,BN,k_w1⟩:=nB w (nN d.kind d.a d.b d.k d.s d.p d.out d.za d.zb W nw cw B nb cb d.qm d.qs d.qz d.rm d.rs d.rz d.lo d.hi) 44
 replace FR:=zH (FR.out.fut k_w1)
 clear k_w1
 obtain ⟨w2,hw_w2,BA,k_w2⟩:=nB w1 #[.int .i64 h,.int .i64 v,.int .i64 c] 24
 replace FR:=zH (FR.out.fut k_w2)
 replace BN:=zH (BN.out.fut k_w2)
 clear k_w2
 obtain ⟨w3,hw_w3,BB,k_w3⟩:=nB w2 #[.int .i64 h2,.int .i64 v2,.int .i64 c2] 24
 replace FR:=zH (FR.out.fut k_w3)
 replace BN:=zH (BN.out.fut k_w3)
 replace BA:=zH (BA.out.fut k_w3)
 clear k_w3
 obtain ⟨w4,hw_w4,BR,k_w4⟩:=nB w3 #[.int .i64 0,.int .i64 0,.int .i64 0] 24
 replace FR:=zH (FR.out.fut k_w4)
 replace BN:=zH (BN.out.fut k_w4)
 replace BA:=zH (BA.out.fut k_w4)
 replace BB:=zH (BB.out.fut k_w4)
 clear k_w4
 have l1:w.heap.size < w1.heap.size:=by rw [← hw_w1];simp
 have l2:w1.heap.size < w2.heap.size:=by rw [← hw_w2];simp
 have l3:w2.heap.size < w3.heap.size:=by rw [← hw_w3];simp
 have l4:w3.heap.size < w4.heap.size:=by rw [← hw_w4];simp
 have n0:=BN.out.cell 0
 rcases (show d.kind=1 ∨ d.kind=2 ∨ d.kind=3 ∨ d.kind=4 ∨ d.kind=5 ∨ d.kind=6 ∨ d.kind=7 ∨ d.kind=8 ∨ d.kind=9 by omega) with e|e|e|e|e|e|e|e|e
 ·clear hk
  have k1:(d.kind == 1)=true:=by simp [e]
  have k2:(d.kind == 2)=false:=by simp [e]
  have k3:(d.kind == 3)=false:=by simp [e]
  have k4:(d.kind == 4)=false:=by simp [e]
  have k5:(d.kind == 5)=false:=by simp [e]
  have k6:(d.kind == 6)=false:=by simp [e]
  have k7:(d.kind == 7)=false:=by simp [e]
  have k8:(d.kind == 8)=false:=by simp [e]
  have k9:(d.kind == 9)=false:=by simp [e]
  have CN:=zH (fun w=>convShape_any h v c d W nw cw B nb cb w i0 i1 i2 hout hnw hnb mw mb)
  obtain ⟨⟨⟨x1,x2,x3⟩,xe⟩,hx⟩:∃ x,convV h v c d=x:=⟨_,rfl⟩
  have R:=zH (show r=((x1,x2,x3),xe) by rw [VV.out,← hx];simp [e])
  rw [hx] at CN
  simp only [retS] at CN
  clear VV hx e i0 i1 i2 hout hp hnw hnb mw mb
  go_enter Tryz.func42,Tryz.ntmps42
  go_wp2_with (first
   | (refine wpList_load_row rfl 24 (.tmp 4) rfl w1.heap.size rfl _ _ (0,0) _ BA.out.heap Tryz.underlying24 rfl (by kernel_rfl) ?_)
   | (refine wpList_load_row rfl 44 (.tmp 3) rfl w.heap.size rfl _ _ (0,0) _ BN.out.heap Tryz.underlying44 rfl (by kernel_rfl) ?_))
  clear hw_w1 hw_w2 hw_w3 hw_w4 n0
  refine (CN.out _).mono ?_
  rintro e w5 ⟨rfl,hb⟩
  replace FR:=zH (FR.out.fut hb)
  replace BN:=zH (BN.out.fut hb)
  replace BA:=zH (BA.out.fut hb)
  replace BB:=zH (BB.out.fut hb)
  replace BR:=zH (BR.out.fut hb)
  clear hb
  go_wp2_with (first
   | (refine wpList_store_all rfl 24 (.tmp 6) (.tmp 15) rfl w3.heap.size #[.int .i64 x1,.int .i64 x2,.int .i64 x3] rfl rfl _ _ BR.out rfl (by kernel_rfl) (by simp [Value.oneCell']) ?_;intro w7 BR7 g7))
  refine ret_cell_tmp rfl BR7 rfl Tryz.underlying24 (by kernel_rfl) rfl ⟨by rw [R.out];rfl,(FR.out.away g7 (by omega)).out⟩
 ·clear hk
  have k1:(d.kind == 1)=false:=by simp [e]
  have k2:(d.kind == 2)=true:=by simp [e]
  have k3:(d.kind == 3)=false:=by simp [e]
  have k4:(d.kind == 4)=false:=by simp [e]
  have k5:(d.kind == 5)=false:=by simp [e]
  have k6:(d.kind == 6)=false:=by simp [e]
  have k7:(d.kind == 7)=false:=by simp [e]
  have k8:(d.kind == 8)=false:=by simp [e]
  have k9:(d.kind == 9)=false:=by simp [e]
  have CN:=zH (fun w=>depthShape_any h v c d W nw cw B nb cb w i0 i1 i2 hout hnw hnb mw mb)
  obtain ⟨⟨⟨x1,x2,x3⟩,xe⟩,hx⟩:∃ x,depthV h v c d=x:=⟨_,rfl⟩
  have R:=zH (show r=((x1,x2,x3),xe) by rw [VV.out,← hx];simp [e])
  rw [hx] at CN
  simp only [retS] at CN
  clear VV hx e i0 i1 i2 hout hp hnw hnb mw mb
  go_enter Tryz.func42,Tryz.ntmps42
  go_wp2_with (first
   | (refine wpList_load_row rfl 24 (.tmp 4) rfl w1.heap.size rfl _ _ (0,0) _ BA.out.heap Tryz.underlying24 rfl (by kernel_rfl) ?_)
   | (refine wpList_load_row rfl 44 (.tmp 3) rfl w.heap.size rfl _ _ (0,0) _ BN.out.heap Tryz.underlying44 rfl (by kernel_rfl) ?_))
  clear hw_w1 hw_w2 hw_w3 hw_w4 n0
  refine (CN.out _).mono ?_
  rintro e w5 ⟨rfl,hb⟩
  replace FR:=zH (FR.out.fut hb)
  replace BN:=zH (BN.out.fut hb)
  replace BA:=zH (BA.out.fut hb)
  replace BB:=zH (BB.out.fut hb)
  replace BR:=zH (BR.out.fut hb)
  clear hb
  go_wp2_with (first
   | (refine wpList_store_all rfl 24 (.tmp 6) (.tmp 22) rfl w3.heap.size #[.int .i64 x1,.int .i64 x2,.int .i64 x3] rfl rfl _ _ BR.out rfl (by kernel_rfl) (by simp [Value.oneCell']) ?_;intro w7 BR7 g7))
  refine ret_cell_tmp rfl BR7 rfl Tryz.underlying24 (by kernel_rfl) rfl ⟨by rw [R.out];rfl,(FR.out.away g7 (by omega)).out⟩
 ·clear hk
  have k1:(d.kind == 1)=false:=by simp [e]
  have k2:(d.kind == 2)=false:=by simp [e]
  have k3:(d.kind == 3)=true:=by simp [e]
  have k4:(d.kind == 4)=false:=by simp [e]
  have k5:(d.kind == 5)=false:=by simp [e]
  have k6:(d.kind == 6)=false:=by simp [e]
  have k7:(d.kind == 7)=false:=by simp [e]
  have k8:(d.kind == 8)=false:=by simp [e]
  have k9:(d.kind == 9)=false:=by simp [e]
  have CN:=zH (fun w=>dense25_any h v c d W nw cw B nb cb w i0 i1 i2 hout hnw hnb mw mb)
  obtain ⟨⟨⟨x1,x2,x3⟩,xe⟩,hx⟩:∃ x,denseV h v c d=x:=⟨_,rfl⟩
  have R:=zH (show r=((x1,x2,x3),xe) by rw [VV.out,← hx];simp [e])
  rw [hx] at CN
  simp only [retS] at CN
  clear VV hx e i0 i1 i2 hout hp hnw hnb mw mb
  go_enter Tryz.func42,Tryz.ntmps42
  go_wp2_with (first
   | (refine wpList_load_row rfl 24 (.tmp 4) rfl w1.heap.size rfl _ _ (0,0) _ BA.out.heap Tryz.underlying24 rfl (by kernel_rfl) ?_)
   | (refine wpList_load_row rfl 44 (.tmp 3) rfl w.heap.size rfl _ _ (0,0) _ BN.out.heap Tryz.underlying44 rfl (by kernel_rfl) ?_))
  clear hw_w1 hw_w2 hw_w3 hw_w4 n0
  refine (CN.out _).mono ?_
  rintro e w5 ⟨rfl,hb⟩
  replace FR:=zH (FR.out.fut hb)
  replace BN:=zH (BN.out.fut hb)
  replace BA:=zH (BA.out.fut hb)
  replace BB:=zH (BB.out.fut hb)
  replace BR:=zH (BR.out.fut hb)
  clear hb
  go_wp2_with (first
   | (refine wpList_store_all rfl 24 (.tmp 6) (.tmp 29) rfl w3.heap.size #[.int .i64 x1,.int .i64 x2,.int .i64 x3] rfl rfl _ _ BR.out rfl (by kernel_rfl) (by simp [Value.oneCell']) ?_;intro w7 BR7 g7))
  refine ret_cell_tmp rfl BR7 rfl Tryz.underlying24 (by kernel_rfl) rfl ⟨by rw [R.out];rfl,(FR.out.away g7 (by omega)).out⟩
 ·clear hk
  have k1:(d.kind == 1)=false:=by simp [e]
  have k2:(d.kind == 2)=false:=by simp [e]
  have k3:(d.kind == 3)=false:=by simp [e]
  have k4:(d.kind == 4)=true:=by simp [e]
  have k5:(d.kind == 5)=false:=by simp [e]
  have k6:(d.kind == 6)=false:=by simp [e]
  have k7:(d.kind == 7)=false:=by simp [e]
  have k8:(d.kind == 8)=false:=by simp [e]
  have k9:(d.kind == 9)=false:=by simp [e]
  have CN:=zH (fun w=>slide_any h v c d.k d.s d.p c w i0 i1 i2 i2)
  have n3:=BN.out.cell 3
  have n4:=BN.out.cell 4
  have n5:=BN.out.cell 5
  have a2:=BA.out.cell 2
  obtain ⟨⟨⟨x1,x2,x3⟩,xe⟩,hx⟩:∃ x,slideV h v c d.k d.s d.p c=x:=⟨_,rfl⟩
  have R:=zH (show r=((x1,x2,x3),xe) by rw [VV.out,← hx];simp [e])
  rw [hx] at CN
  simp only [retS] at CN
  clear VV hx e i0 i1 i2 hout hp hnw hnb mw mb
  go_enter Tryz.func42,Tryz.ntmps42
  go_wp2_with (first
   | (refine wpList_load_row rfl 24 (.tmp 4) rfl w1.heap.size rfl _ _ (0,0) _ BA.out.heap Tryz.underlying24 rfl (by kernel_rfl) ?_))
  clear hw_w1 hw_w2 hw_w3 hw_w4 n0 n3 n4 n5 a2
  refine (CN.out _).mono ?_
  rintro e w5 ⟨rfl,hb⟩
  replace FR:=zH (FR.out.fut hb)
  replace BN:=zH (BN.out.fut hb)
  replace BA:=zH (BA.out.fut hb)
  replace BB:=zH (BB.out.fut hb)
  replace BR:=zH (BR.out.fut hb)
  clear hb
  go_wp2_with (first
   | (refine wpList_store_all rfl 24 (.tmp 6) (.tmp 44) rfl w3.heap.size #[.int .i64 x1,.int .i64 x2,.int .i64 x3] rfl rfl _ _ BR.out rfl (by kernel_rfl) (by simp [Value.oneCell']) ?_;intro w7 BR7 g7))
  refine ret_cell_tmp rfl BR7 rfl Tryz.underlying24 (by kernel_rfl) rfl ⟨by rw [R.out];rfl,(FR.out.away g7 (by omega)).out⟩
 ·clear hk
  have k1:(d.kind == 1)=false:=by simp [e]
  have k2:(d.kind == 2)=false:=by simp [e]
  have k3:(d.kind == 3)=false:=by simp [e]
  have k4:(d.kind == 4)=false:=by simp [e]
  have k5:(d.kind == 5)=true:=by simp [e]
  have k6:(d.kind == 6)=false:=by simp [e]
  have k7:(d.kind == 7)=false:=by simp [e]
  have k8:(d.kind == 8)=false:=by simp [e]
  have k9:(d.kind == 9)=false:=by simp [e]
  have CN:=zH (fun w=>slide_any h v c d.k d.s d.p c w i0 i1 i2 i2)
  have n3:=BN.out.cell 3
  have n4:=BN.out.cell 4
  have n5:=BN.out.cell 5
  have a2:=BA.out.cell 2
  obtain ⟨⟨⟨x1,x2,x3⟩,xe⟩,hx⟩:∃ x,slideV h v c d.k d.s d.p c=x:=⟨_,rfl⟩
  have R:=zH (show r=((x1,x2,x3),xe) by rw [VV.out,← hx];simp [e])
  rw [hx] at CN
  simp only [retS] at CN
  clear VV hx e i0 i1 i2 hout hp hnw hnb mw mb
  go_enter Tryz.func42,Tryz.ntmps42
  go_wp2_with (first
   | (refine wpList_load_row rfl 24 (.tmp 4) rfl w1.heap.size rfl _ _ (0,0) _ BA.out.heap Tryz.underlying24 rfl (by kernel_rfl) ?_))
  clear hw_w1 hw_w2 hw_w3 hw_w4 n0 n3 n4 n5 a2
  refine (CN.out _).mono ?_
  rintro e w5 ⟨rfl,hb⟩
  replace FR:=zH (FR.out.fut hb)
  replace BN:=zH (BN.out.fut hb)
  replace BA:=zH (BA.out.fut hb)
  replace BB:=zH (BB.out.fut hb)
  replace BR:=zH (BR.out.fut hb)
  clear hb
  go_wp2_with (first
   | (refine wpList_store_all rfl 24 (.tmp 6) (.tmp 44) rfl w3.heap.size #[.int .i64 x1,.int .i64 x2,.int .i64 x3] rfl rfl _ _ BR.out rfl (by kernel_rfl) (by simp [Value.oneCell']) ?_;intro w7 BR7 g7))
  refine ret_cell_tmp rfl BR7 rfl Tryz.underlying24 (by kernel_rfl) rfl ⟨by rw [R.out];rfl,(FR.out.away g7 (by omega)).out⟩
 ·clear hk
  have k1:(d.kind == 1)=false:=by simp [e]
  have k2:(d.kind == 2)=false:=by simp [e]
  have k3:(d.kind == 3)=false:=by simp [e]
  have k4:(d.kind == 4)=false:=by simp [e]
  have k5:(d.kind == 5)=false:=by simp [e]
  have k6:(d.kind == 6)=true:=by simp [e]
  have k7:(d.kind == 7)=false:=by simp [e]
  have k8:(d.kind == 8)=false:=by simp [e]
  have k9:(d.kind == 9)=false:=by simp [e]
  have CN:=zH (fun w=>plainShape_any h v c h2 v2 c2 d W nw cw B nb cb w i0 i1 i2 hout hp hnw hnb mw mb (by omega))
  obtain ⟨⟨⟨x1,x2,x3⟩,xe⟩,hx⟩:∃ x,plainV d.kind h v c h2 v2 c2 d.p=x:=⟨_,rfl⟩
  have R:=zH (show r=((x1,x2,x3),xe) by rw [VV.out,← hx];simp [e])
  rw [hx] at CN
  simp only [retS] at CN
  clear VV hx e i0 i1 i2 hout hp hnw hnb mw mb
  go_enter Tryz.func42,Tryz.ntmps42
  go_wp2_with (first
   | (refine wpList_load_row rfl 24 (.tmp 4) rfl w1.heap.size rfl _ _ (0,0) _ BA.out.heap Tryz.underlying24 rfl (by kernel_rfl) ?_)
   | (refine wpList_load_row rfl 24 (.tmp 5) rfl w2.heap.size rfl _ _ (0,0) _ BB.out.heap Tryz.underlying24 rfl (by kernel_rfl) ?_)
   | (refine wpList_load_row rfl 44 (.tmp 3) rfl w.heap.size rfl _ _ (0,0) _ BN.out.heap Tryz.underlying44 rfl (by kernel_rfl) ?_))
  clear hw_w1 hw_w2 hw_w3 hw_w4 n0
  refine (CN.out _).mono ?_
  rintro e w5 ⟨rfl,hb⟩
  replace FR:=zH (FR.out.fut hb)
  replace BN:=zH (BN.out.fut hb)
  replace BA:=zH (BA.out.fut hb)
  replace BB:=zH (BB.out.fut hb)
  replace BR:=zH (BR.out.fut hb)
  clear hb
  go_wp2_with (first
   | (refine wpList_store_all rfl 24 (.tmp 6) (.tmp 55) rfl w3.heap.size #[.int .i64 x1,.int .i64 x2,.int .i64 x3] rfl rfl _ _ BR.out rfl (by kernel_rfl) (by simp [Value.oneCell']) ?_;intro w7 BR7 g7))
  refine ret_cell_tmp rfl BR7 rfl Tryz.underlying24 (by kernel_rfl) rfl ⟨by rw [R.out];rfl,(FR.out.away g7 (by omega)).out⟩
 ·clear hk
  have k1:(d.kind == 1)=false:=by simp [e]
  have k2:(d.kind == 2)=false:=by simp [e]
  have k3:(d.kind == 3)=false:=by simp [e]
  have k4:(d.kind == 4)=false:=by simp [e]
  have k5:(d.kind == 5)=false:=by simp [e]
  have k6:(d.kind == 6)=false:=by simp [e]
  have k7:(d.kind == 7)=true:=by simp [e]
  have k8:(d.kind == 8)=false:=by simp [e]
  have k9:(d.kind == 9)=false:=by simp [e]
  have CN:=zH (fun w=>plainShape_any h v c h2 v2 c2 d W nw cw B nb cb w i0 i1 i2 hout hp hnw hnb mw mb (by omega))
  obtain ⟨⟨⟨x1,x2,x3⟩,xe⟩,hx⟩:∃ x,plainV d.kind h v c h2 v2 c2 d.p=x:=⟨_,rfl⟩
  have R:=zH (show r=((x1,x2,x3),xe) by rw [VV.out,← hx];simp [e])
  rw [hx] at CN
  simp only [retS] at CN
  clear VV hx e i0 i1 i2 hout hp hnw hnb mw mb
  go_enter Tryz.func42,Tryz.ntmps42
  go_wp2_with (first
   | (refine wpList_load_row rfl 24 (.tmp 4) rfl w1.heap.size rfl _ _ (0,0) _ BA.out.heap Tryz.underlying24 rfl (by kernel_rfl) ?_)
   | (refine wpList_load_row rfl 24 (.tmp 5) rfl w2.heap.size rfl _ _ (0,0) _ BB.out.heap Tryz.underlying24 rfl (by kernel_rfl) ?_)
   | (refine wpList_load_row rfl 44 (.tmp 3) rfl w.heap.size rfl _ _ (0,0) _ BN.out.heap Tryz.underlying44 rfl (by kernel_rfl) ?_))
  clear hw_w1 hw_w2 hw_w3 hw_w4 n0
  refine (CN.out _).mono ?_
  rintro e w5 ⟨rfl,hb⟩
  replace FR:=zH (FR.out.fut hb)
  replace BN:=zH (BN.out.fut hb)
  replace BA:=zH (BA.out.fut hb)
  replace BB:=zH (BB.out.fut hb)
  replace BR:=zH (BR.out.fut hb)
  clear hb
  go_wp2_with (first
   | (refine wpList_store_all rfl 24 (.tmp 6) (.tmp 55) rfl w3.heap.size #[.int .i64 x1,.int .i64 x2,.int .i64 x3] rfl rfl _ _ BR.out rfl (by kernel_rfl) (by simp [Value.oneCell']) ?_;intro w7 BR7 g7))
  refine ret_cell_tmp rfl BR7 rfl Tryz.underlying24 (by kernel_rfl) rfl ⟨by rw [R.out];rfl,(FR.out.away g7 (by omega)).out⟩
 ·clear hk
  have k1:(d.kind == 1)=false:=by simp [e]
  have k2:(d.kind == 2)=false:=by simp [e]
  have k3:(d.kind == 3)=false:=by simp [e]
  have k4:(d.kind == 4)=false:=by simp [e]
  have k5:(d.kind == 5)=false:=by simp [e]
  have k6:(d.kind == 6)=false:=by simp [e]
  have k7:(d.kind == 7)=false:=by simp [e]
  have k8:(d.kind == 8)=true:=by simp [e]
  have k9:(d.kind == 9)=false:=by simp [e]
  have CN:=zH (fun w=>plainShape_any h v c h2 v2 c2 d W nw cw B nb cb w i0 i1 i2 hout hp hnw hnb mw mb (by omega))
  obtain ⟨⟨⟨x1,x2,x3⟩,xe⟩,hx⟩:∃ x,plainV d.kind h v c h2 v2 c2 d.p=x:=⟨_,rfl⟩
  have R:=zH (show r=((x1,x2,x3),xe) by rw [VV.out,← hx];simp [e])
  rw [hx] at CN
  simp only [retS] at CN
  clear VV hx e i0 i1 i2 hout hp hnw hnb mw mb
  go_enter Tryz.func42,Tryz.ntmps42
  go_wp2_with (first
   | (refine wpList_load_row rfl 24 (.tmp 4) rfl w1.heap.size rfl _ _ (0,0) _ BA.out.heap Tryz.underlying24 rfl (by kernel_rfl) ?_)
   | (refine wpList_load_row rfl 24 (.tmp 5) rfl w2.heap.size rfl _ _ (0,0) _ BB.out.heap Tryz.underlying24 rfl (by kernel_rfl) ?_)
   | (refine wpList_load_row rfl 44 (.tmp 3) rfl w.heap.size rfl _ _ (0,0) _ BN.out.heap Tryz.underlying44 rfl (by kernel_rfl) ?_))
  clear hw_w1 hw_w2 hw_w3 hw_w4 n0
  refine (CN.out _).mono ?_
  rintro e w5 ⟨rfl,hb⟩
  replace FR:=zH (FR.out.fut hb)
  replace BN:=zH (BN.out.fut hb)
  replace BA:=zH (BA.out.fut hb)
  replace BB:=zH (BB.out.fut hb)
  replace BR:=zH (BR.out.fut hb)
  clear hb
  go_wp2_with (first
   | (refine wpList_store_all rfl 24 (.tmp 6) (.tmp 55) rfl w3.heap.size #[.int .i64 x1,.int .i64 x2,.int .i64 x3] rfl rfl _ _ BR.out rfl (by kernel_rfl) (by simp [Value.oneCell']) ?_;intro w7 BR7 g7))
  refine ret_cell_tmp rfl BR7 rfl Tryz.underlying24 (by kernel_rfl) rfl ⟨by rw [R.out];rfl,(FR.out.away g7 (by omega)).out⟩
 ·clear hk
  have k1:(d.kind == 1)=false:=by simp [e]
  have k2:(d.kind == 2)=false:=by simp [e]
  have k3:(d.kind == 3)=false:=by simp [e]
  have k4:(d.kind == 4)=false:=by simp [e]
  have k5:(d.kind == 5)=false:=by simp [e]
  have k6:(d.kind == 6)=false:=by simp [e]
  have k7:(d.kind == 7)=false:=by simp [e]
  have k8:(d.kind == 8)=false:=by simp [e]
  have k9:(d.kind == 9)=true:=by simp [e]
  have CN:=zH (fun w=>plainShape_any h v c h2 v2 c2 d W nw cw B nb cb w i0 i1 i2 hout hp hnw hnb mw mb (by omega))
  obtain ⟨⟨⟨x1,x2,x3⟩,xe⟩,hx⟩:∃ x,plainV d.kind h v c h2 v2 c2 d.p=x:=⟨_,rfl⟩
  have R:=zH (show r=((x1,x2,x3),xe) by rw [VV.out,← hx];simp [e])
  rw [hx] at CN
  simp only [retS] at CN
  clear VV hx e i0 i1 i2 hout hp hnw hnb mw mb
  go_enter Tryz.func42,Tryz.ntmps42
  go_wp2_with (first
   | (refine wpList_load_row rfl 24 (.tmp 4) rfl w1.heap.size rfl _ _ (0,0) _ BA.out.heap Tryz.underlying24 rfl (by kernel_rfl) ?_)
   | (refine wpList_load_row rfl 24 (.tmp 5) rfl w2.heap.size rfl _ _ (0,0) _ BB.out.heap Tryz.underlying24 rfl (by kernel_rfl) ?_)
   | (refine wpList_load_row rfl 44 (.tmp 3) rfl w.heap.size rfl _ _ (0,0) _ BN.out.heap Tryz.underlying44 rfl (by kernel_rfl) ?_))
  clear hw_w1 hw_w2 hw_w3 hw_w4 n0
  refine (CN.out _).mono ?_
  rintro e w5 ⟨rfl,hb⟩
  replace FR:=zH (FR.out.fut hb)
  replace BN:=zH (BN.out.fut hb)
  replace BA:=zH (BA.out.fut hb)
  replace BB:=zH (BB.out.fut hb)
  replace BR:=zH (BR.out.fut hb)
  clear hb
  go_wp2_with (first
   | (refine wpList_store_all rfl 24 (.tmp 6) (.tmp 55) rfl w3.heap.size #[.int .i64 x1,.int .i64 x2,.int .i64 x3] rfl rfl _ _ BR.out rfl (by kernel_rfl) (by simp [Value.oneCell']) ?_;intro w7 BR7 g7))
  refine ret_cell_tmp rfl BR7 rfl Tryz.underlying24 (by kernel_rfl) rfl ⟨by rw [R.out];rfl,(FR.out.away g7 (by omega)).out⟩
end Go.Proofs.YtjkmjpjknmghlaaGreat
