/-
  The law's Same and known (layer 44).
  Conditions: the library's tables lie as they are laid.
-/
import Derived.Test.YthnhknomjepijaaDoorOpS
import Derived.Test.YthnhknomjepijaaDoorEqU8
import Derived.Test.YthnhknomjepijaaDoorOpO
namespace Go.Proofs.YthnhknomjepijaaDoor
set_option linter.unusedVariables false
set_option linter.unusedSimpArgs false
open Go.RowKit Go.ChangeShapes Go.WideShapes
set_option maxRecDepth 100000
set_option maxHeartbeats 4000000

theorem same44_any (k n d k' n' d' : Int) (A A' : Option Addr) (m cap m' cap' : Nat) (l l' : List Int) (w : World) (hs : Sl (tInt .u8) w (blo w.heap.size) A m cap l) (hs' : Sl (tInt .u8) w (blo w.heap.size) A' m' cap' l') :
    Calls Tryd.prog 14 #[.agg #[.int .i64 k, .int .i64 n, .int .i64 d, .slice A m cap], .agg #[.int .i64 k', .int .i64 n', .int .i64 d', .slice A' m' cap']] w fun e w' => e = .returned (.bool ((k == k') && (n == n') && (d == d') && decide (l = l'))) ∧ Below w.heap.size w w' := by
  have FR := Lib.hid (Far.refl w)
  have H1 := Lib.hid (Old.now hs)
  have H2 := Lib.hid (Old.now hs')
  obtain ⟨b1, h1⟩ : ∃ b, (k == k') = b := ⟨_, rfl⟩
  obtain ⟨b2, h2⟩ : ∃ b, (n == n') = b := ⟨_, rfl⟩
  obtain ⟨b3, h3⟩ : ∃ b, (d == d') = b := ⟨_, rfl⟩
  have SM := Lib.hid (fun w a b => same06_any A A' m cap m' cap' l l' w a b)
  obtain ⟨b4, h4⟩ : ∃ b, decide (l = l') = b := ⟨_, rfl⟩
  rw [h4] at SM ⊢
  rw [h1, h2, h3]
  clear hs hs' h4
  obtain ⟨w1, hw_w1⟩ : ∃ nw_, w.alloc (.cells #[.int .i64 k, .int .i64 n, .int .i64 d, .slice A m cap] 24) = nw_ := ⟨_, rfl⟩
  have k_w1 : Below w.heap.size w w1 := by rw [← hw_w1]; exact (Below.refl _ _).alloc (Nat.le_refl _) _
  replace FR := Lib.hid (FR.out.fut k_w1)
  have BA := Lib.hid (show Blk w1 w.heap.size 24 #[.int .i64 k, .int .i64 n, .int .i64 d, .slice A m cap] by rw [← hw_w1]; exact Blk.now _ _ _ _ rfl)
  clear k_w1
  obtain ⟨w2, hw_w2⟩ : ∃ nw_, w1.alloc (.cells #[.int .i64 k', .int .i64 n', .int .i64 d', .slice A' m' cap'] 24) = nw_ := ⟨_, rfl⟩
  have k_w2 : Below w1.heap.size w1 w2 := by rw [← hw_w2]; exact (Below.refl _ _).alloc (Nat.le_refl _) _
  replace FR := Lib.hid (FR.out.fut k_w2)
  replace BA := Lib.hid (BA.out.fut k_w2)
  have BB := Lib.hid (show Blk w2 w1.heap.size 24 #[.int .i64 k', .int .i64 n', .int .i64 d', .slice A' m' cap'] by rw [← hw_w2]; exact Blk.now _ _ _ _ rfl)
  clear k_w2
  have a0 := BA.out.cell 0; have a1 := BA.out.cell 1; have a2 := BA.out.cell 2; have a3 := BA.out.cell 3; simp only [List.getElem?_toArray, List.getElem?_cons_succ, List.getElem?_cons_zero] at a0 a1 a2 a3
  have b'0 := BB.out.cell 0; have b'1 := BB.out.cell 1; have b'2 := BB.out.cell 2; have b'3 := BB.out.cell 3; simp only [List.getElem?_toArray, List.getElem?_cons_succ, List.getElem?_cons_zero] at b'0 b'1 b'2 b'3
  go_enter Tryd.func14, Tryd.ntmps14
  cases b1
  · go_wp2_with fail
    go_ret
    exact ⟨rfl, FR.out.out⟩
  cases b2
  · go_wp2_with fail
    go_ret
    exact ⟨rfl, FR.out.out⟩
  cases b3
  · go_wp2_with fail
    go_ret
    exact ⟨rfl, FR.out.out⟩
  go_wp2_with (go_at_call 19; refine (SM.out _ (H1.out.fut FR.out.out).all (H2.out.fut FR.out.out).all).mono ?_; rintro e w5 ⟨rfl, hb⟩; replace FR := Lib.hid (FR.out.fut hb); clear hb)
  go_ret
  exact ⟨by cases b4 <;> rfl, FR.out.out⟩

theorem known_parse : parseV ⟨#[115, 117, 98, 109, 105, 116, 32, 48, 53, 102, 102, 32, 51]⟩ = some ⟨2, 0, 3, [5, 255]⟩ := by
  have ok : OkO ⟨2, 0, 3, [5, 255]⟩ := ⟨by decide, by decide, by decide⟩
  have hi : Lib.itoa 3 = [51] := by unfold Lib.itoa; rw [if_neg (by decide)]; exact dec_small (n := 3) (by decide)
  have hj : joinB (strsO ⟨2, 0, 3, [5, 255]⟩) = ⟨#[115, 117, 98, 109, 105, 116, 32, 48, 53, 102, 102, 32, 51]⟩ := by
    show joinB [wordB 2, strOfNums (hexB [5, 255]), (⟨(Lib.itoa 3).toArray⟩ : ByteArray)] = _
    rw [joinB3, hi]; rfl
  rw [parse_doc, ← hj, cut_line ok]
  exact doc_strs (by decide) ok
theorem known_line : lineO ⟨6, 0, 0, []⟩ = ⟨#[115, 116, 97, 116, 115]⟩ := by
  have h : rightO ⟨6, 0, 0, []⟩ = true := by decide
  unfold lineO
  rw [if_pos h]
  show joinB [wordB 6] = _
  rw [joinB1]; rfl
theorem known44_any (w : World) (hw : LW w) : Calls Tryd.prog 7 #[] w fun e w' => e = .returned (.bool true) ∧ Below w.heap.size w w' := by
  have FR := Lib.hid (Far.refl w)
  have HL := Lib.hid hw
  have PK := Lib.hid ((opParse_any ⟨#[115, 117, 98, 109, 105, 116, 32, 48, 53, 102, 102, 32, 51]⟩ w (by decide) hw).mono (R' := fun e w' => ∃ A m cap, e = .returned (.tuple #[.agg #[.int .i64 2, .int .i64 0, .int .i64 3, .slice A m cap], .int .i64 0]) ∧ Sl (tInt .u8) w' (bin w.heap.size w'.heap.size) A m cap [5, 255] ∧ Below w.heap.size w w') (by
    rintro e w' ⟨A, m, cap, he, sl, hb⟩
    rw [known_parse] at he sl
    exact ⟨A, m, cap, he, sl, hb⟩))
  clear hw
  go_enter Tryd.func7, Tryd.ntmps7
  go_wp2_with fail
  refine (PK.out).mono ?_
  rintro e w1 ⟨A, m, cap, rfl, sl, hb⟩
  replace FR := Lib.hid (FR.out.fut hb)
  have H1 := Lib.hid (show Old w1 (tInt .u8) w1 A m cap [5, 255] from Old.now sl.old)
  clear sl hb PK
  have l1 : w.heap.size ≤ w1.heap.size := FR.out.size
  obtain ⟨w2, hw_w2⟩ : ∃ nw_, w1.alloc (.cells #[.int .i64 0, .int .i64 0, .int .i64 0, .slice none 0 0] 24) = nw_ := ⟨_, rfl⟩
  have k_w2 : Below w1.heap.size w1 w2 := by rw [← hw_w2]; exact (Below.refl _ _).alloc (Nat.le_refl _) _
  replace FR := Lib.hid (FR.out.fut k_w2)
  replace H1 := Lib.hid (H1.out.fut k_w2)
  have BK := Lib.hid (show Blk w2 w1.heap.size 24 #[.int .i64 0, .int .i64 0, .int .i64 0, .slice none 0 0] by rw [← hw_w2]; exact Blk.now _ _ _ _ rfl)
  clear k_w2
  go_wp2_with (first | (refine wpList_store_all rfl 24 (.tmp 1) (.tmp 5) rfl w1.heap.size #[.int .i64 2, .int .i64 0, .int .i64 3, .slice A m cap] rfl rfl _ _ BK.out rfl (by kernel_rfl) (by simp [Value.oneCell']) ?_; intro w3 o3 g3; replace FR := Lib.hid (FR.out.away g3 (by omega)); replace H1 := Lib.hid (H1.out.away g3 (Nat.le_refl _)); replace BK := Lib.hid o3; clear o3 g3 hw_w2; obtain ⟨w4, hw_w4⟩ : ∃ nw_, w3.alloc (.cells #[.int .u8 5, .int .u8 255] 5) = nw_ := ⟨_, rfl⟩; have k_4 : Below w3.heap.size w3 w4 := (by rw [← hw_w4]; exact (Below.refl _ _).alloc (Nat.le_refl _) _); have F4 := Lib.hid (FR.out.fut k_4); have H4 := Lib.hid (H1.out.fut k_4); have BL := Lib.hid (show Blk w4 w3.heap.size 5 #[.int .u8 5, .int .u8 255] by rw [← hw_w4]; exact Blk.now _ _ _ _ rfl); clear k_4; have k0 := BK.out.cell 0; have k1 := BK.out.cell 1; have k2 := BK.out.cell 2; have k3 := BK.out.cell 3; simp only [List.getElem?_toArray, List.getElem?_cons_succ, List.getElem?_cons_zero] at k0 k1 k2 k3) | (go_at_call 14; refine (same44_any 2 0 3 2 0 3 A _ m cap 2 2 [5, 255] [5, 255] w4 H4.out.all (Sl.lit _ BL.out.heap rfl (by decide) BL.out.lt rfl rfl (by unfold maxLen; simp))).mono ?_; rintro e w6 ⟨rfl, hb⟩; replace F4 := Lib.hid (F4.out.fut hb); clear hb) | (go_at_call 12; refine (opLine_any 6 0 0 none 0 0 [] _ (Sl.nil _ _ _) (by decide) (by decide) (HL.out.fut F4.out.out)).mono ?_; rw [known_line]; rintro e w7 ⟨rfl, hb⟩; replace F4 := Lib.hid (F4.out.fut hb); clear hb))
  go_ret
  exact ⟨rfl, F4.out.out⟩
end Go.Proofs.YthnhknomjepijaaDoor
