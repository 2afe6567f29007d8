/-
  A tensor of one number (layer 5: tensor.Fill).
-/
import Derived.Test.YtlbkekabmpienaaGreatJ27
import Derived.Test.YtlbkekabmpienaaGreatJ24
import Derived.Test.YtlbkekabmpienaaGreatJ00
namespace Go.Proofs.YtlbkekabmpienaaGreat
set_option linter.unusedVariables false
set_option linter.unusedSimpArgs false
open Go.RowKit Go.ChangeShapes Go.WideShapes Fx
set_option maxRecDepth 100000
set_option maxHeartbeats 4000000
theorem fill_any (H V C N:Nat) (z:Int) (w:World) (h1:1≤H∧H≤100) (v1:1≤V∧V≤100) (c1:1≤C∧C≤1024) (hel:elems (H:Int) (V:Int) (C:Int)=(N:Int)) (hN:1≤N∧N≤1024) (hz:InK .i8 z) :
  Calls Tryz.prog 133 #[.agg #[.int .i64 H,.int .i64 V,.int .i64 C],.int .i8 z] w fun e w'=>∃ q,e=.returned (.tuple #[.agg #[.int .i64 H,.int .i64 V,.int .i64 C,.slice (some ⟨q,0,none⟩) N N],.int .i64 0])∧Own (tInt .i8) w' (fun _=>False) w.heap.size 22 (.slice (some ⟨q,0,none⟩) N N) N (List.replicate N z)∧Below w.heap.size w w':=by
 have SR:=zH (fun w=>shapeRight_any (H:Int) (C:Int) (V:Int) w (by rw [inK_i64];omega) (by rw [inK_i64];omega) (by rw [inK_i64];omega))
 rw [show decide (0 < elems (H:Int) (V:Int) (C:Int))=true by rw [hel];simp;omega] at SR
 have EL:=zH (fun w=>elems_any (H:Int) (C:Int) (V:Int) w (by rw [inK_i64];omega) (by rw [inK_i64];omega) (by rw [inK_i64];omega))
 rw [hel] at EL
 have RP:=zH (fun g w hc hg=>repeat_any z N g w hN hz hc hg)
 have FR:=zH (Far.refl w)
 clear hel hz
 obtain ⟨w1,hw_w1,BA,k_w1⟩:=nB w #[.int .i64 H,.int .i64 V,.int .i64 C] 30
 replace FR:=zH (FR.out.fut k_w1)
 clear k_w1
 obtain ⟨w1b,hw_w1b,BR,k_w1b⟩:=nB w1 #[.int .i64 0,.int .i64 0,.int .i64 0,.slice none 0 0] 32
 replace FR:=zH (FR.out.fut k_w1b)
 replace BA:=zH (BA.out.fut k_w1b)
 clear k_w1b
 have l1:w.heap.size < w1.heap.size:=by rw [← hw_w1];simp
 have l2:w1.heap.size < w1b.heap.size:=by rw [← hw_w1b];simp
 go_enter Tryz.func133,Tryz.ntmps133
 go_wp2_with (refine lB 30 (.tmp 2) w.heap.size BA.out Tryz.underlying30 ?_)
 refine (SR.out _).mono ?_
 rintro e w2 ⟨rfl,hb⟩
 have l3:=hb.size
 replace FR:=zH (FR.out.fut hb)
 replace BA:=zH (BA.out.fut hb)
 replace BR:=zH (BR.out.fut hb)
 clear hb
 clear hw_w1 hw_w1b
 go_wp2_with fail
 refine wp_region_held_drew (S:=fun w'=>Blk w' w.heap.size 30 #[.int .i64 H,.int .i64 V,.int .i64 C]∧Below w.heap.size w w') (by kernel_rfl) ?_ (fun hS=>?_)
 ·exact ⟨BA.out.drew,FR.out.out.drew⟩
 have KW:=zH (show Below w2.heap.size w2 w2.drew from (Below.refl _ _).drew)
 refine tkH 0 rfl (yB 30 (.tmp 2) w.heap.size (fun w hs=>hs.1) Tryz.underlying30) hS ?_
 try simp only [pX]
 refine tkH 1 rfl (v:=?_) (Or.inl ⟨by rfl,?_⟩) hS ?_
 rotate_left
 ·intro wz hSw;(try dsimp only at hSw);go_simp;try with_reducible rfl
 try simp only [pX]
 refine tkH 3 rfl (yB 30 (.tmp 2) w.heap.size (fun w hs=>hs.1) Tryz.underlying30) hS ?_
 try simp only [pX]
 refine wpAnyH_ready (rs:=[2,4]) (by kernel_rfl) (by simp) ?_
 refine AllReadyH.cons rfl (fun K hK=>?_) (AllReadyH.cons rfl (fun K hK=>?_) AllReadyH.nil)
 ·go_simp
  have hb:Below w2.drew.heap.size w2.drew (w2.drew.alloc (.cells #[.int .i8 z] 22)):=(Below.refl _ _).alloc (Nat.le_refl _) _
  have BZ:=zH (Blk.now w2.drew w2.heap.size 22 #[.int .i8 z] rfl)
  refine hK.out _ _ ?_ (fun hS=>?_)
  ·exact ⟨Blk.later hS.1 hb,below_later hb hS.2⟩
  replace KW:=zH (below_later hb KW.out)
  clear hK K
  try simp only [pX]
  refine wpAnyH_ready (rs:=[4]) (by kernel_rfl) (by simp) ?_
  refine AllReadyH.cons rfl (fun K hK=>?_) AllReadyH.nil
  go_simp
  refine (EL.out _).mono ?_
  rintro e wa ⟨rfl,hb⟩
  replace BZ:=zH (BZ.out.later hb)
  refine hK.out _ _ ?_ (fun hS=>?_)
  ·exact ⟨Blk.later hS.1 hb,below_later hb hS.2⟩
  replace KW:=zH (below_later hb KW.out)
  clear hK K
  try simp only [pX]
  refine wpAnyH_ready (rs:=[5]) (by kernel_rfl) (by simp) ?_
  refine AllReadyH.cons rfl (fun K hK=>?_) AllReadyH.nil
  go_simp
  have zw:w2.heap.size≤(wa).heap.size:=KW.out.size
  have lz:=BZ.out.lt
  refine (RP.out w2.heap.size (wa) (BZ.out.cell 0) lz).mono ?_
  rintro e wb ⟨q,rfl,own,hb⟩
  have OW:=zH own
  have lq:=own.lt _ rfl
  clear own
  have BR3:=zH (BR.out.later (below_later hb KW.out))
  refine hK.out _ _ ?_ (fun hS=>?_)
  ·exact ⟨Blk.later hS.1 hb,below_later hb hS.2⟩
  replace KW:=zH (below_later hb KW.out)
  clear hK K
  try simp only [pX]
  refine tkH 6 rfl (v:=?_) (Or.inl ⟨by rfl,?_⟩) hS ?_
  rotate_left
  ·intro wz hSw;(try dsimp only at hSw);go_simp;try with_reducible rfl
  try simp only [pX]
  refine wpAnyH_ready (rs:=[7]) (by kernel_rfl) (by simp) ?_
  refine AllReadyH.cons rfl (fun K hK=>?_) AllReadyH.nil
  rw [if_pos (by rfl)]
  refine oper_store_blk 32 (.tmp 4) (.tmp 16) rfl w1.heap.size 0 #[.int .i64 H,.int .i64 V,.int .i64 C,.slice (some ⟨q,0,none⟩) N N] rfl rfl _ #[.int .i64 0,.int .i64 0,.int .i64 0,.slice none 0 0] #[.int .i64 H,.int .i64 V,.int .i64 C,.slice (some ⟨q,0,none⟩) N N] BR3.out (by simp) (by kernel_rfl) (by simp [Value.oneCell']) rfl ?_
  intro wc BX gc
  have e2:=OW.out.flat gc (.inr (by simp [Value.ownBlock];simp only [World.size_drew,World.size_alloc] at *;omega)) (fun _ h=>h)
  have F9:=(show Far w _ from ⟨hS.2⟩).away gc (by omega)
  have zq:w.heap.size≤q:=by simp only [World.size_drew,World.size_alloc] at *;omega
  refine hK.out _ _ ⟨hS.1.away gc (.inl (by omega)),F9.out⟩ (fun hS=>?_)
  clear hK K
  try simp only [pX]
  refine wpAnyH_ready (rs:=[8]) (by kernel_rfl) (by simp) ?_
  refine AllReadyH.cons rfl (fun K hK=>?_) AllReadyH.nil
  go_simp
  refine hK.out _ _ hS (fun hS=>?_)
  clear hK K
  try simp only [pX]
  refine wpAnyH_done (by kernel_rfl) ?_ _
  go_wp2_with fail
  refine ret_cell_tmp rfl BX rfl Tryz.underlying32 (by kernel_rfl) rfl ?_
  exact ⟨q,rfl,owned_more e2 zq,F9.out⟩
 ·go_simp
  refine (EL.out _).mono ?_
  rintro e wa ⟨rfl,hb⟩
  refine hK.out _ _ ?_ (fun hS=>?_)
  ·exact ⟨Blk.later hS.1 hb,below_later hb hS.2⟩
  replace KW:=zH (below_later hb KW.out)
  clear hK K
  try simp only [pX]
  refine wpAnyH_ready (rs:=[2]) (by kernel_rfl) (by simp) ?_
  refine AllReadyH.cons rfl (fun K hK=>?_) AllReadyH.nil
  go_simp
  have hb:Below wa.heap.size wa (wa.alloc (.cells #[.int .i8 z] 22)):=(Below.refl _ _).alloc (Nat.le_refl _) _
  have BZ:=zH (Blk.now wa wa.heap.size 22 #[.int .i8 z] rfl)
  refine hK.out _ _ ?_ (fun hS=>?_)
  ·exact ⟨Blk.later hS.1 hb,below_later hb hS.2⟩
  replace KW:=zH (below_later hb KW.out)
  clear hK K
  try simp only [pX]
  refine wpAnyH_ready (rs:=[5]) (by kernel_rfl) (by simp) ?_
  refine AllReadyH.cons rfl (fun K hK=>?_) AllReadyH.nil
  go_simp
  have zw:w2.heap.size≤(wa.alloc (.cells #[.int .i8 z] 22)).heap.size:=KW.out.size
  have lz:=BZ.out.lt
  refine (RP.out wa.heap.size (wa.alloc (.cells #[.int .i8 z] 22)) (BZ.out.cell 0) lz).mono ?_
  rintro e wb ⟨q,rfl,own,hb⟩
  have OW:=zH own
  have lq:=own.lt _ rfl
  clear own
  have BR3:=zH (BR.out.later (below_later hb KW.out))
  refine hK.out _ _ ?_ (fun hS=>?_)
  ·exact ⟨Blk.later hS.1 hb,below_later hb hS.2⟩
  replace KW:=zH (below_later hb KW.out)
  clear hK K
  try simp only [pX]
  refine tkH 6 rfl (v:=?_) (Or.inl ⟨by rfl,?_⟩) hS ?_
  rotate_left
  ·intro wz hSw;(try dsimp only at hSw);go_simp;try with_reducible rfl
  try simp only [pX]
  refine wpAnyH_ready (rs:=[7]) (by kernel_rfl) (by simp) ?_
  refine AllReadyH.cons rfl (fun K hK=>?_) AllReadyH.nil
  rw [if_pos (by rfl)]
  refine oper_store_blk 32 (.tmp 4) (.tmp 16) rfl w1.heap.size 0 #[.int .i64 H,.int .i64 V,.int .i64 C,.slice (some ⟨q,0,none⟩) N N] rfl rfl _ #[.int .i64 0,.int .i64 0,.int .i64 0,.slice none 0 0] #[.int .i64 H,.int .i64 V,.int .i64 C,.slice (some ⟨q,0,none⟩) N N] BR3.out (by simp) (by kernel_rfl) (by simp [Value.oneCell']) rfl ?_
  intro wc BX gc
  have e2:=OW.out.flat gc (.inr (by simp [Value.ownBlock];simp only [World.size_drew,World.size_alloc] at *;omega)) (fun _ h=>h)
  have F9:=(show Far w _ from ⟨hS.2⟩).away gc (by omega)
  have zq:w.heap.size≤q:=by simp only [World.size_drew,World.size_alloc] at *;omega
  refine hK.out _ _ ⟨hS.1.away gc (.inl (by omega)),F9.out⟩ (fun hS=>?_)
  clear hK K
  try simp only [pX]
  refine wpAnyH_ready (rs:=[8]) (by kernel_rfl) (by simp) ?_
  refine AllReadyH.cons rfl (fun K hK=>?_) AllReadyH.nil
  go_simp
  refine hK.out _ _ hS (fun hS=>?_)
  clear hK K
  try simp only [pX]
  refine wpAnyH_done (by kernel_rfl) ?_ _
  go_wp2_with fail
  refine ret_cell_tmp rfl BX rfl Tryz.underlying32 (by kernel_rfl) rfl ?_
  exact ⟨q,rfl,owned_more e2 zq,F9.out⟩
end Go.Proofs.YtlbkekabmpienaaGreat
