/-
  Two numbers joined (layer 20): join.may, join.scaled, join.One, the document's One.
-/
import Derived.Test.YtlbkekabmpienaaGreatJ00
import Derived.Test.YtlbkekabmpienaaGreatJ27
namespace Go.Proofs.YtlbkekabmpienaaGreat
set_option linter.unusedVariables false
set_option linter.unusedSimpArgs false
open Go.RowKit Go.ChangeShapes Go.WideShapes Fx
set_option maxRecDepth 100000
set_option maxHeartbeats 4000000
/-- Two numbers joined. -/
def joinV (d:Node) (x y:Int):Int:=w8 (heldV (roundV ((x - d.za)*d.qm) d.qs+roundV ((y - d.zb)*d.rm) d.rs+d.qz) d.lo d.hi)
theorem joinV_in (d:Node) (x y:Int):InK .i8 (joinV d x y):=w8_in _
def mayV (d:Node):Bool:=quantOk d.qm d.qs && quantOk d.rm d.rs
theorem prod8 {a b m:Int} (ha:InK .i8 a) (hb:InK .i8 b) (hm:InK .i32 m):((a - b)*m).natAbs≤547608330240:=by
 rw [inK_i8] at ha hb
 rw [inK_i32] at hm
 exact Nat.le_trans (natAbs_mul_le (m:=255) (n:=2147483648) (by omega) (by omega)) (by decide)
theorem joinMay_any (d:Node) (W:Option Addr) (nw cw:Nat) (B:Option Addr) (nb cb:Nat) (w:World) :
  Calls Tryz.prog 55 #[.agg #[.int .i64 d.kind,.int .i64 d.a,.int .i64 d.b,.int .i64 d.k,.int .i64 d.s,.int .i64 d.p,.int .i64 d.out,.int .i8 d.za,.int .i8 d.zb,.slice W nw cw,.slice B nb cb,.int .i32 d.qm,.int .i64 d.qs,.int .i8 d.qz,.int .i32 d.rm,.int .i64 d.rs,.int .i8 d.rz,.int .i8 d.lo,.int .i8 d.hi]] w fun e w'=>e=.returned (.bool (mayV d))∧Below w.heap.size w w':=by
 have Q1:=zH (fun w=>fixRight_any d.qm d.qs d.qz w)
 have Q2:=zH (fun w=>fixRight_any d.rm d.rs d.rz w)
 have FR:=zH (Far.refl w)
 obtain ⟨w1,hw_w1,BN,k_w1⟩:=nB w #[.int .i64 d.kind,.int .i64 d.a,.int .i64 d.b,.int .i64 d.k,.int .i64 d.s,.int .i64 d.p,.int .i64 d.out,.int .i8 d.za,.int .i8 d.zb,.slice W nw cw,.slice B nb cb,.int .i32 d.qm,.int .i64 d.qs,.int .i8 d.qz,.int .i32 d.rm,.int .i64 d.rs,.int .i8 d.rz,.int .i8 d.lo,.int .i8 d.hi] 28
 replace FR:=zH (FR.out.fut k_w1)
 clear k_w1
 unfold mayV
 obtain ⟨q,hq⟩:∃ q,quantOk d.qm d.qs=q:=⟨_,rfl⟩
 obtain ⟨r,hr⟩:∃ r,quantOk d.rm d.rs=r:=⟨_,rfl⟩
 rw [hq] at Q1 ⊢
 rw [hr] at Q2 ⊢
 clear hq hr
 cases q with
 | false =>
  go_enter Tryz.func55,Tryz.ntmps55
  go_wp2_with (first|(refine wpList_load_blk rfl 26 (.tmp 3) rfl w.heap.size 11 rfl _ #[.int .i64 d.kind,.int .i64 d.a,.int .i64 d.b,.int .i64 d.k,.int .i64 d.s,.int .i64 d.p,.int .i64 d.out,.int .i8 d.za,.int .i8 d.zb,.slice W nw cw,.slice B nb cb,.int .i32 d.qm,.int .i64 d.qs,.int .i8 d.qz,.int .i32 d.rm,.int .i64 d.rs,.int .i8 d.rz,.int .i8 d.lo,.int .i8 d.hi] #[.int .i32 d.qm,.int .i64 d.qs,.int .i8 d.qz] _ BN.out Tryz.underlying26 rfl (by kernel_rfl) rfl ?_)|(go_at_call 50;refine (Q1.out _).mono ?_;rintro e w2 ⟨rfl,hb⟩))
  go_ret
  exact ⟨rfl,(FR.out.fut hb).out⟩
 | true =>
  go_enter Tryz.func55,Tryz.ntmps55
  go_wp2_with (first|(refine wpList_load_blk rfl 26 (.tmp 3) rfl w.heap.size 11 rfl _ #[.int .i64 d.kind,.int .i64 d.a,.int .i64 d.b,.int .i64 d.k,.int .i64 d.s,.int .i64 d.p,.int .i64 d.out,.int .i8 d.za,.int .i8 d.zb,.slice W nw cw,.slice B nb cb,.int .i32 d.qm,.int .i64 d.qs,.int .i8 d.qz,.int .i32 d.rm,.int .i64 d.rs,.int .i8 d.rz,.int .i8 d.lo,.int .i8 d.hi] #[.int .i32 d.qm,.int .i64 d.qs,.int .i8 d.qz] _ BN.out Tryz.underlying26 rfl (by kernel_rfl) rfl ?_)|(refine wpList_load_blk rfl 26 (.tmp 7) rfl w.heap.size 14 rfl _ #[.int .i64 d.kind,.int .i64 d.a,.int .i64 d.b,.int .i64 d.k,.int .i64 d.s,.int .i64 d.p,.int .i64 d.out,.int .i8 d.za,.int .i8 d.zb,.slice W nw cw,.slice B nb cb,.int .i32 d.qm,.int .i64 d.qs,.int .i8 d.qz,.int .i32 d.rm,.int .i64 d.rs,.int .i8 d.rz,.int .i8 d.lo,.int .i8 d.hi] #[.int .i32 d.rm,.int .i64 d.rs,.int .i8 d.rz] _ BN.out Tryz.underlying26 rfl (by kernel_rfl) rfl ?_)|(go_at_call 50;first|(with_reducible refine (Q1.out _).mono ?_;rintro e w2 ⟨rfl,hb⟩;replace FR:=zH (FR.out.fut hb);replace BN:=zH (BN.out.fut hb);clear hb hw_w1;have c14:=BN.out.cell 14;have c15:=BN.out.cell 15;have c16:=BN.out.cell 16;simp only [gX] at c14 c15 c16)|(with_reducible refine (Q2.out _).mono ?_;rintro e w3 ⟨rfl,hb⟩)))
  go_ret
  exact ⟨by cases r <;> rfl,(FR.out.fut hb).out⟩
theorem joinScaled_any (x zz m s z:Int) (w:World) (hx:InK .i8 x) (hz:InK .i8 zz) (hm:InK .i32 m) :
  Calls Tryz.prog 100 #[.int .i8 x,.int .i8 zz,.agg #[.int .i32 m,.int .i64 s,.int .i8 z]] w fun e w'=>e=.returned (.int .i64 (roundV ((x - zz)*m) s))∧Below w.heap.size w w':=by
 rw [inK_i8] at hx hz
 obtain ⟨x1,x2⟩:=hx
 obtain ⟨z1,z2⟩:=hz
 have SC:=zH (fun w=>scale_any (x - zz) m s w (by rw [inK_i32];omega) hm)
 have FR:=zH (Far.refl w)
 obtain ⟨w1,hw_w1,BQ,k_w1⟩:=nB w #[.int .i32 m,.int .i64 s,.int .i8 z] 26
 replace FR:=zH (FR.out.fut k_w1)
 clear k_w1
 have d0:=BQ.out.cell 0
 have d1:=BQ.out.cell 1
 clear hm
 go_enter Tryz.func100,Tryz.ntmps100
 go_wp2_with (go_at_call 131;refine (SC.out _).mono ?_;rintro e w2 ⟨rfl,hb⟩)
 go_ret
 exact ⟨rfl,(FR.out.fut hb).out⟩
theorem joinOne_any (x y:Int) (d:Node) (W:Option Addr) (nw cw:Nat) (B:Option Addr) (nb cb:Nat) (w:World) (hx:InK .i8 x) (hy:InK .i8 y) (hd:NodeIn d) (hm:mayV d=true) :
  Calls Tryz.prog 57 #[.int .i8 x,.int .i8 y,.agg #[.int .i64 d.kind,.int .i64 d.a,.int .i64 d.b,.int .i64 d.k,.int .i64 d.s,.int .i64 d.p,.int .i64 d.out,.int .i8 d.za,.int .i8 d.zb,.slice W nw cw,.slice B nb cb,.int .i32 d.qm,.int .i64 d.qs,.int .i8 d.qz,.int .i32 d.rm,.int .i64 d.rs,.int .i8 d.rz,.int .i8 d.lo,.int .i8 d.hi]] w fun e w'=>e=.returned (.int .i8 (joinV d x y))∧Below w.heap.size w w':=by
 have b1:=roundV_le _ d.qs _ (prod8 hx hd.za hd.qm)
 have b2:=roundV_le _ d.rs _ (prod8 hy hd.zb hd.rm)
 have MA:=zH (fun w=>joinMay_any d W nw cw B nb cb w)
 rw [hm] at MA
 have S1:=zH (fun w=>joinScaled_any x d.za d.qm d.qs d.qz w hx hd.za hd.qm)
 have S2:=zH (fun w=>joinScaled_any y d.zb d.rm d.rs d.rz w hy hd.zb hd.rm)
 unfold joinV
 obtain ⟨r1,h1⟩:∃ r,roundV ((x - d.za)*d.qm) d.qs=r:=⟨_,rfl⟩
 obtain ⟨r2,h2⟩:∃ r,roundV ((y - d.zb)*d.rm) d.rs=r:=⟨_,rfl⟩
 rw [h1] at S1 b1 ⊢
 rw [h2] at S2 b2 ⊢
 have hz:=hd.qz
 rw [inK_i8] at hz
 obtain ⟨z1,z2⟩:=hz
 have e1:IntKind.i64.wrap (r1+r2)=r1+r2:=IntWalk.i64_in _ (by omega)
 have e2:IntKind.i64.wrap d.qz=d.qz:=IntWalk.i64_in _ (by omega)
 have e3:IntKind.i64.wrap (r1+r2+d.qz)=r1+r2+d.qz:=IntWalk.i64_in _ (by omega)
 have CL:=zH (fun w=>clamp_any (r1+r2+d.qz) d.lo d.hi w hd.lo hd.hi)
 have FR:=zH (Far.refl w)
 obtain ⟨w1,hw_w1,BN,k_w1⟩:=nB w #[.int .i64 d.kind,.int .i64 d.a,.int .i64 d.b,.int .i64 d.k,.int .i64 d.s,.int .i64 d.p,.int .i64 d.out,.int .i8 d.za,.int .i8 d.zb,.slice W nw cw,.slice B nb cb,.int .i32 d.qm,.int .i64 d.qs,.int .i8 d.qz,.int .i32 d.rm,.int .i64 d.rs,.int .i8 d.rz,.int .i8 d.lo,.int .i8 d.hi] 28
 replace FR:=zH (FR.out.fut k_w1)
 clear k_w1
 clear h1 h2 hm hx hy hd
 go_enter Tryz.func57,Tryz.ntmps57
 go_wp2_with (first|(refine lB 28 (.tmp 5) w.heap.size BN.out Tryz.underlying28 ?_)|(go_at_call 55;refine (MA.out _).mono ?_;rintro e w2 ⟨rfl,hb⟩;replace FR:=zH (FR.out.fut hb);replace BN:=zH (BN.out.fut hb);clear hb hw_w1))
 have c7:∀ q:Ext w2,q.1.cell? ⟨w.heap.size,7,none⟩=some (.int .i8 d.za):=fun q=>(BN.out.ext q).cell 7
 have c8:∀ q:Ext w2,q.1.cell? ⟨w.heap.size,8,none⟩=some (.int .i8 d.zb):=fun q=>(BN.out.ext q).cell 8
 have c11:∀ q:Ext w2,q.1.cell? ⟨w.heap.size,11,none⟩=some (.int .i32 d.qm):=fun q=>(BN.out.ext q).cell 11
 have c12:∀ q:Ext w2,q.1.cell? ⟨w.heap.size,12,none⟩=some (.int .i64 d.qs):=fun q=>(BN.out.ext q).cell 12
 have c13:∀ q:Ext w2,q.1.cell? ⟨w.heap.size,13,none⟩=some (.int .i8 d.qz):=fun q=>(BN.out.ext q).cell 13
 have c14:∀ q:Ext w2,q.1.cell? ⟨w.heap.size,14,none⟩=some (.int .i32 d.rm):=fun q=>(BN.out.ext q).cell 14
 have c15:∀ q:Ext w2,q.1.cell? ⟨w.heap.size,15,none⟩=some (.int .i64 d.rs):=fun q=>(BN.out.ext q).cell 15
 have c16:∀ q:Ext w2,q.1.cell? ⟨w.heap.size,16,none⟩=some (.int .i8 d.rz):=fun q=>(BN.out.ext q).cell 16
 have c17:∀ q:Ext w2,q.1.cell? ⟨w.heap.size,17,none⟩=some (.int .i8 d.lo):=fun q=>(BN.out.ext q).cell 17
 have c18:∀ q:Ext w2,q.1.cell? ⟨w.heap.size,18,none⟩=some (.int .i8 d.hi):=fun q=>(BN.out.ext q).cell 18
 have E1:=zH (fun q:Ext w2=>calls_ext q (S1.out q.1))
 have E2:=zH (fun q:Ext w2=>calls_ext q (S2.out q.1))
 have E3:=zH (fun q:Ext w2=>calls_ext q ((CL.out q.1).mono (fun e w' h=>⟨h.1,by rw [← h.2];exact Below.refl _ _⟩)))
 refine wp_region_ext w2 (by kernel_rfl) (by kernel_rfl) (Below.refl _ _) ?_
 repeat (go_big_quiet_step (first|(with_reducible exact E1.out _)|(with_reducible exact E2.out _)|(with_reducible exact E3.out _)))
 refine wpQuiet_nil ?_
 rintro _ ⟨⟨w3,hB⟩,rfl⟩
 go_wp2_with fail
 go_ret
 exact ⟨rfl,(FR.out.fut hB).out⟩
end Go.Proofs.YtlbkekabmpienaaGreat
