/-
  The fixed calls of layer 36; a point as the document's.
-/
import Derived.Test.YthjmghjfklkmbaaGreatJ46
set_option linter.unusedVariables false
set_option linter.unusedSimpArgs false
namespace Go.Proofs.YthjmghjfklkmbaaGreat
open Go.RowKit Go.ChangeShapes Go.WideShapes
set_option maxRecDepth 100000
set_option maxHeartbeats 8000000
theorem of36_any (p:Pt) (A B:Option Addr) (n c m d:Nat) (w:World) :
  Calls Tryz.prog 16 #[.agg (ptCells p A n c B m d)] w fun e w'=>e=.returned (.agg (ptCells p A n c B m d))∧Below w.heap.size w w':=by
 unfold ptCells
 go_enter Tryz.func16,Tryz.ntmps16
 go_wp2_with (refine wpList_store_all rfl 53 (.tmp 2) (.tmp 13) rfl (w.heap.size+1) (ptCells p A n c B m d) rfl rfl _ _ (Blk.now _ _ _ _ (by simp)) rfl (by kernel_rfl) (by simp [Value.oneCell',ptCells]) ?_;intro w3 B3 g3)
 refine ret_cell rfl B3 rfl Tryz.underlying53 (by kernel_rfl) rfl ?_
 exact ⟨rfl,(((Below.refl _ _).alloc (Nat.le_refl _) _).alloc (by simp) _).grown g3 (by simp;omega) (fun k h=>by have:=Option.some.inj h;omega)⟩
def b36:BlkD:=⟨[flatN],true,⟨[1,2],[0,0],0⟩⟩
def u36:Bun:=⟨1,1,1,2,[[b36]]⟩
theorem u36_few:fewU u36:=by
 refine ⟨by decide,fun m hm=>?_⟩
 obtain rfl:=List.mem_singleton.1 hm
 refine ⟨by decide,fun b hb=>?_⟩
 obtain rfl:=List.mem_singleton.1 hb
 refine ⟨⟨by decide,fun d hd=>?_⟩,by decide,by decide⟩
 obtain rfl:=List.mem_singleton.1 hd
 exact ⟨by decide,by decide⟩
theorem u36_ok:(bundleV u36).1=0:=by kernel_rfl
theorem tab_len (u:Bun):(tableC u).length=u.models.length:=by unfold tableC;rw [List.length_map]
theorem tab_rows {u:Bun} (hf:fewU u):∀ r ∈ tableC u,r.length≤100:=fun r hr=>by
 unfold tableC at hr
 obtain ⟨m,hm,rfl⟩:=List.mem_map.1 hr
 rw [rowC_len]
 have:=(hf.2 m hm).1
 omega
theorem lens_tab (u:Bun):lens (tableC u)=lens u.models:=by
 unfold lens tableC
 rw [List.map_map]
 congr 1
 exact List.map_congr_left fun m _=>rowC_len m _ _
theorem u36_table:lens (tableC u36)=1:=by rw [lens_tab];rfl
abbrev flatC:Array Value:=(nN 9 0 0 0 0 0 0 0 0 none 0 0 none 0 0 0 0 0 0 0 0 0 0)
theorem u36_at {w:World} {g1 g2 g3 g4 g5:Nat} (h1:Blk w g1 70 flatC) (h2:Blk w g2 66 #[.int .i8 1,.int .i8 2]) (h3:Blk w g3 21 #[.int .i32 0,.int .i32 0])
  (h4:Blk w g4 65 #[.slice (some ⟨g1,0,none⟩) 1 1,.bool true,.slice (some ⟨g2,0,none⟩) 2 2,.slice (some ⟨g3,0,none⟩) 2 2,.int .i32 0]) (h5:Blk w g5 58 #[.slice (some ⟨g4,0,none⟩) 1 1]) :
  Sl tModel w (blo w.heap.size) (some ⟨g5,0,none⟩) 1 1 u36.models:=by
 have s1:Sl tNode w (blo w.heap.size) (some ⟨g1,0,none⟩) 1 1 b36.nodes:=Sl.of_block h1.heap h1.lt (Nat.le_refl _) (by unfold maxLen;decide) rfl (RowsOf.one (flatN_rep _ _))
 have s2:Sl (tInt .i8) w (blo w.heap.size) (some ⟨g2,0,none⟩) 2 2 b36.head.w:=Sl.lit [1,2] h2.heap rfl (by intro x hx;simp at hx;rcases hx with rfl|rfl <;> decide) h2.lt rfl rfl (by simp [maxLen])
 have s3:Sl (tInt .i32) w (blo w.heap.size) (some ⟨g3,0,none⟩) 2 2 b36.head.bias:=Sl.lit [0,0] h3.heap rfl (by intro x hx;simp at hx;rcases hx with rfl|rfl <;> decide) h3.lt rfl rfl (by simp [maxLen])
 have s4:Sl tBlk w (blo w.heap.size) (some ⟨g4,0,none⟩) 1 1 [b36]:=Sl.of_block h4.heap h4.lt (Nat.le_refl _) (by unfold maxLen;decide) rfl (RowsOf.one (blk_rep (b:=b36) ⟨s1,s2,s3,by decide⟩))
 exact Sl.of_block h5.heap h5.lt (Nat.le_refl _) (by unfold maxLen;decide) rfl (RowsOf.one (tSlice_iff.2 ⟨_,_,rfl,s4⟩))
theorem known36_any (w:World):Calls Tryz.prog 5 #[] w fun e w'=>e=.returned (.bool true)∧Below w.heap.size w w':=by
 have SN:=zH (fun w=>start_nil noTensor none 0 0 w)
 have NW:=zH (fun w A n cap h=>new_ok u36 A n cap w h (by unfold inU;decide) u36_few u36_ok)
 have NT:=zH (fun g cs B n cb w hb h5 (ht:Sl tRow w (blo w.heap.size) B n cb (tableC u36))=>netSteps_any g cs B n cb (tableC u36) w hb h5 ht (by rw [← ht.n_eq,tab_len];decide) (tab_rows u36_few))
 have LT:=zH u36_table
 have SZ:=zH (fun w=>netSteps_nil w)
 have H:=zH (Far.refl w)
 go_enter Tryz.func5,Tryz.ntmps5
 go_wp2_with fail
 refine (SN.out _).mono ?_
 rintro e w1 ⟨rfl,hb⟩
 replace H:=zF hb H
 clear hb
 go_wp2_with (first
  | (refine sF 42 (.tmp 2) (.tmp 11) (ptCells noPoint none 0 0 none 0 0) ?_;intro w2 b2 k2;replace H:=zN k2 H b2;clear b2)
  | (refine wpList_lit1 rfl (.tmp 14) rfl ei_nodeC flatC rfl rfl (by decide) ?_)
  | (refine wpList_lit1 rfl (.tmp 19) rfl ei_blockC #[.slice (some ⟨w2.heap.size,0,none⟩) 1 1,.bool true,.slice (some ⟨w2.heap.size+1,0,none⟩) 2 2,.slice (some ⟨w2.heap.size+1+1,0,none⟩) 2 2,.int .i32 0] rfl rfl (by decide) ?_)
  | (refine wpList_lit1 rfl (.tmp 21) rfl ei_modelC #[.slice (some ⟨w2.heap.size+1+1+1,0,none⟩) 1 1] rfl rfl (by decide) ?_))
 obtain ⟨a1,h1,B1,k1⟩:=nB w2 flatC 70
 obtain ⟨a2,h2,B2,k2⟩:=nB a1 #[.int .i8 1,.int .i8 2] 66
 obtain ⟨a3,h3,B3,k3⟩:=nB a2 #[.int .i32 0,.int .i32 0] 21
 obtain ⟨a4,h4,B4,k4⟩:=nB a3 #[.slice (some ⟨w2.heap.size,0,none⟩) 1 1,.bool true,.slice (some ⟨w2.heap.size+1,0,none⟩) 2 2,.slice (some ⟨w2.heap.size+1+1,0,none⟩) 2 2,.int .i32 0] 65
 obtain ⟨a5,h5,B5,k5⟩:=nB a4 #[.slice (some ⟨w2.heap.size+1+1+1,0,none⟩) 1 1] 58
 obtain ⟨a6,h6,B6,k6⟩:=nB a5 #[.int .i64 1,.int .i64 1,.int .i64 1,.int .i64 2,.slice (some ⟨w2.heap.size+1+1+1+1,0,none⟩) 1 1] 26
 have z1:a1.heap.size=w2.heap.size+1:=by rw [← h1];simp
 have z2:a2.heap.size=w2.heap.size+1+1:=by rw [← h2,← z1];simp
 have z3:a3.heap.size=w2.heap.size+1+1+1:=by rw [← h3,← z2];simp
 have z4:a4.heap.size=w2.heap.size+1+1+1+1:=by rw [← h4,← z3];simp
 rw [h1,h2,h3,h4,h5,h6]
 rw [z1] at B2
 rw [z2] at B3
 rw [z3] at B4
 rw [z4] at B5
 have F6:=zF k6 (zF k5 (zF k4 (zF k3 (zF k2 (zF k1 H)))))
 have U6:=zH (u36_at (B1.out.fut (below_later k6 (below_later k5 (below_later k4 (below_later k3 k2))))) (B2.out.fut (below_later k6 (below_later k5 (below_later k4 k3)))) (B3.out.fut (below_later k6 (below_later k5 k4))) (B4.out.fut (below_later k6 k5)) (B5.out.fut k6))
 clear h1 h2 h3 h4 h5 h6 z1 z2 z3 z4 k1 k2 k3 k4 k5 k6 B1 B2 B3 B4 B5 B6 H
 refine (NW.out _ _ _ _ U6.out).mono ?_
 rintro e w9 ⟨g,rfl,hg,⟨A1,n2,c1,B,cb,C,cc,hblk,hm,ht,hi⟩,hb⟩
 have F9:=zF hb F6
 have BN:=zH hblk
 have TT:=zH ht.old
 clear hb F6 hblk hm ht hi NW U6
 go_wp2_with fail
 refine (NT.out g _ B n2 cb _ BN.out rfl TT.out).mono ?_
 rintro e w10 ⟨rfl,hb⟩
 replace F9:=zF hb F9
 clear hb NT BN TT
 rw [LT.out]
 go_wp2_with fail
 refine (SZ.out _).mono ?_
 rintro e w11 ⟨rfl,hb⟩
 replace F9:=zF hb F9
 clear hb
 go_wp2_with fail
 go_ret
 exact ⟨rfl,F9.out.1.out⟩
end Go.Proofs.YthjmghjfklkmbaaGreat
