/-
  Two numbers joined (layer 20): join.may, join.scaled, join.One, the document's One.
-/
import Derived.Test.YtjkmjpjknmghlaaGreatJ31
set_option linter.unusedVariables false
set_option linter.unusedSimpArgs false
namespace Go.Proofs.YtjkmjpjknmghlaaGreat
open Go.RowKit Go.ChangeShapes Go.WideShapes Fx
set_option maxRecDepth 100000
set_option maxHeartbeats 4000000
def joinV (d:Node) (x y:Int):Int:=w8 (heldV (roundV ((x - d.za)*d.qm) d.qs+roundV ((y - d.zb)*d.rm) d.rs+d.qz) d.lo d.hi)
theorem joinV_in (d:Node) (x y:Int):InK .i8 (joinV d x y):=w8_in _
def mayV (d:Node):Bool:=quantOk d.qm d.qs && quantOk d.rm d.rs
theorem prod8 {a b m:Int} (ha:InK .i8 a) (hb:InK .i8 b) (hm:InK .i32 m):((a - b)*m).natAbs≤547608330240:=by
 rw [inK_i8] at ha hb
 rw [inK_i32] at hm
 exact Nat.le_trans (natAbs_mul_le (m:=255) (n:=2147483648) (by omega) (by omega)) (by decide)
theorem joinMay_any (d:Node) (W:Option Addr) (nw cw:Nat) (B:Option Addr) (nb cb:Nat) (w:World) :
  Calls Tryz.prog 82 #[.agg (nN d.kind d.a d.b d.k d.s d.p d.out d.za d.zb W nw cw B nb cb d.qm d.qs d.qz d.rm d.rs d.rz d.lo d.hi)] w fun e w'=>e=.returned (.bool (mayV d))∧Below w.heap.size w w':=by
 have Q1:=zH (fun w=>fixRight_any d.qm d.qs d.qz w)
 have Q2:=zH (fun w=>fixRight_any d.rm d.rs d.rz w)
 have FR:=zH (Far.refl w)
 obtain ⟨w1,hw_w1,BN,k_w1⟩:=nB w (nN d.kind d.a d.b d.k d.s d.p d.out d.za d.zb W nw cw B nb cb d.qm d.qs d.qz d.rm d.rs d.rz d.lo d.hi) 44
 replace FR:=zH (FR.out.fut k_w1)
 clear k_w1
 unfold mayV
 obtain ⟨q,hq⟩:∃ q,quantOk d.qm d.qs=q:=⟨_,rfl⟩
 obtain ⟨r,hr⟩:∃ r,quantOk d.rm d.rs=r:=⟨_,rfl⟩
 rw [hq] at Q1 ⊢
 rw [hr] at Q2 ⊢
 clear hq hr
 cases q with
 | false =>
  go_enter Tryz.func82,Tryz.ntmps82
  go_wp2_with (first|(refine wpList_load_blk rfl 42 (.tmp 3) rfl w.heap.size 11 rfl _ (nN d.kind d.a d.b d.k d.s d.p d.out d.za d.zb W nw cw B nb cb d.qm d.qs d.qz d.rm d.rs d.rz d.lo d.hi) #[.int .i32 d.qm,.int .i64 d.qs,.int .i8 d.qz] _ BN.out Tryz.underlying42 rfl (by kernel_rfl) rfl ?_)|(go_at_call 73;refine (Q1.out _).mono ?_;rintro e w2 ⟨rfl,hb⟩))
  go_ret
  exact ⟨rfl,(FR.out.fut hb).out⟩
 | true =>
  go_enter Tryz.func82,Tryz.ntmps82
  go_wp2_with (first|(refine wpList_load_blk rfl 42 (.tmp 3) rfl w.heap.size 11 rfl _ (nN d.kind d.a d.b d.k d.s d.p d.out d.za d.zb W nw cw B nb cb d.qm d.qs d.qz d.rm d.rs d.rz d.lo d.hi) #[.int .i32 d.qm,.int .i64 d.qs,.int .i8 d.qz] _ BN.out Tryz.underlying42 rfl (by kernel_rfl) rfl ?_)|(refine wpList_load_blk rfl 42 (.tmp 7) rfl w.heap.size 14 rfl _ (nN d.kind d.a d.b d.k d.s d.p d.out d.za d.zb W nw cw B nb cb d.qm d.qs d.qz d.rm d.rs d.rz d.lo d.hi) #[.int .i32 d.rm,.int .i64 d.rs,.int .i8 d.rz] _ BN.out Tryz.underlying42 rfl (by kernel_rfl) rfl ?_)|(go_at_call 73;first|(with_reducible refine (Q1.out _).mono ?_;rintro e w2 ⟨rfl,hb⟩;replace FR:=zH (FR.out.fut hb);replace BN:=zH (BN.out.fut hb);clear hb hw_w1;have c14:=BN.out.cell 14;have c15:=BN.out.cell 15;have c16:=BN.out.cell 16;simp only [gX] at c14 c15 c16)|(with_reducible refine (Q2.out _).mono ?_;rintro e w3 ⟨rfl,hb⟩)))
  go_ret
  exact ⟨by cases r <;> rfl,(FR.out.fut hb).out⟩
theorem joinScaled_any (x zz m s z:Int) (w:World) (hx:InK .i8 x) (hz:InK .i8 zz) (hm:InK .i32 m) :
  Calls Tryz.prog 115 #[.int .i8 x,.int .i8 zz,.agg #[.int .i32 m,.int .i64 s,.int .i8 z]] w fun e w'=>e=.returned (.int .i64 (roundV ((x - zz)*m) s))∧Below w.heap.size w w':=by
 rw [inK_i8] at hx hz
 obtain ⟨x1,x2⟩:=hx
 obtain ⟨z1,z2⟩:=hz
 have SC:=zH (fun w=>scale_any (x - zz) m s w (by rw [inK_i32];omega) hm)
 have FR:=zH (Far.refl w)
 obtain ⟨w1,hw_w1,BQ,k_w1⟩:=nB w #[.int .i32 m,.int .i64 s,.int .i8 z] 42
 replace FR:=zH (FR.out.fut k_w1)
 clear k_w1
 have d0:=BQ.out.cell 0
 have d1:=BQ.out.cell 1
 clear hm
 go_enter Tryz.func115,Tryz.ntmps115
 go_wp2_with (go_at_call 131;refine (SC.out _).mono ?_;rintro e w2 ⟨rfl,hb⟩)
 go_ret
 exact ⟨rfl,(FR.out.fut hb).out⟩
theorem joinOne_any (x y:Int) (d:Node) (W:Option Addr) (nw cw:Nat) (B:Option Addr) (nb cb:Nat) (w:World) (hx:InK .i8 x) (hy:InK .i8 y) (hd:NodeIn d) (hm:mayV d=true) :
  Calls Tryz.prog 84 #[.int .i8 x,.int .i8 y,.agg (nN d.kind d.a d.b d.k d.s d.p d.out d.za d.zb W nw cw B nb cb d.qm d.qs d.qz d.rm d.rs d.rz d.lo d.hi)] w fun e w'=>e=.returned (.int .i8 (joinV d x y))∧Below w.heap.size w w':=by
 have b1:=roundV_le _ d.qs _ (prod8 hx hd.za hd.qm)
 have b2:=roundV_le _ d.rs _ (prod8 hy hd.zb hd.rm)
 have MA:=zH (fun w=>joinMay_any d W nw cw B nb cb w)
 rw [hm] at MA
 have S1:=zH (fun w=>joinScaled_any x d.za d.qm d.qs d.qz w hx hd.za hd.qm)
 have S2:=zH (fun w=>joinScaled_any y d.zb d.rm d.rs d.rz w hy hd.zb hd.rm)
 unfold joinV
 obtain ⟨r1,h1⟩:∃ r,roundV ((x - d.za)*d.qm) d.qs=r:=⟨_,rfl⟩
 obtain ⟨r2,h2⟩:∃ r,roundV ((y - d.zb)*d.rm) d.rs=r:=⟨_,rfl⟩
 rw [h1] at S1 b1 ⊢
 rw [h2] at S2 b2 ⊢
 have hz:=hd.qz
 rw [inK_i8] at hz
 obtain ⟨z1,z2⟩:=hz
 have e1:IntKind.i64.wrap (r1+r2)=r1+r2:=IntWalk.i64_in _ (by omega)
 have e2:IntKind.i64.wrap d.qz=d.qz:=IntWalk.i64_in _ (by omega)
 have e3:IntKind.i64.wrap (r1+r2+d.qz)=r1+r2+d.qz:=IntWalk.i64_in _ (by omega)
 have CL:=zH (fun w=>clamp_any (r1+r2+d.qz) d.lo d.hi w hd.lo hd.hi)
 have FR:=zH (Far.refl w)
 obtain ⟨w1,hw_w1,BN,k_w1⟩:=nB w (nN d.kind d.a d.b d.k d.s d.p d.out d.za d.zb W nw cw B nb cb d.qm d.qs d.qz d.rm d.rs d.rz d.lo d.hi) 44
 replace FR:=zH (FR.out.fut k_w1)
 clear k_w1
 clear h1 h2 hm hx hy hd
 go_enter Tryz.func84,Tryz.ntmps84
 go_wp2_with (first|(refine lB 44 (.tmp 5) w.heap.size BN.out Tryz.underlying44 ?_)|(go_at_call 82;refine (MA.out _).mono ?_;rintro e w2 ⟨rfl,hb⟩;replace FR:=zH (FR.out.fut hb);replace BN:=zH (BN.out.fut hb);clear hb hw_w1))
 have c7:∀ q:Ext w2,q.1.cell? ⟨w.heap.size,7,none⟩=some (.int .i8 d.za):=fun q=>(BN.out.ext q).cell 7
 have c8:∀ q:Ext w2,q.1.cell? ⟨w.heap.size,8,none⟩=some (.int .i8 d.zb):=fun q=>(BN.out.ext q).cell 8
 have c11:∀ q:Ext w2,q.1.cell? ⟨w.heap.size,11,none⟩=some (.int .i32 d.qm):=fun q=>(BN.out.ext q).cell 11
 have c12:∀ q:Ext w2,q.1.cell? ⟨w.heap.size,12,none⟩=some (.int .i64 d.qs):=fun q=>(BN.out.ext q).cell 12
 have c13:∀ q:Ext w2,q.1.cell? ⟨w.heap.size,13,none⟩=some (.int .i8 d.qz):=fun q=>(BN.out.ext q).cell 13
 have c14:∀ q:Ext w2,q.1.cell? ⟨w.heap.size,14,none⟩=some (.int .i32 d.rm):=fun q=>(BN.out.ext q).cell 14
 have c15:∀ q:Ext w2,q.1.cell? ⟨w.heap.size,15,none⟩=some (.int .i64 d.rs):=fun q=>(BN.out.ext q).cell 15
 have c16:∀ q:Ext w2,q.1.cell? ⟨w.heap.size,16,none⟩=some (.int .i8 d.rz):=fun q=>(BN.out.ext q).cell 16
 have c17:∀ q:Ext w2,q.1.cell? ⟨w.heap.size,17,none⟩=some (.int .i8 d.lo):=fun q=>(BN.out.ext q).cell 17
 have c18:∀ q:Ext w2,q.1.cell? ⟨w.heap.size,18,none⟩=some (.int .i8 d.hi):=fun q=>(BN.out.ext q).cell 18
 have E1:=zH (fun q:Ext w2=>calls_ext q (S1.out q.1))
 have E2:=zH (fun q:Ext w2=>calls_ext q (S2.out q.1))
 have E3:=zH (fun q:Ext w2=>calls_ext q ((CL.out q.1).mono (fun e w' h=>⟨h.1,by rw [← h.2];exact Below.refl _ _⟩)))
 refine wp_region_ext w2 (by kernel_rfl) (by kernel_rfl) (Below.refl _ _) ?_
 repeat (go_big_quiet_step (first|(with_reducible exact E1.out _)|(with_reducible exact E2.out _)|(with_reducible exact E3.out _)))
 refine wpQuiet_nil ?_
 rintro _ ⟨⟨w3,hB⟩,rfl⟩
 go_wp2_with fail
 go_ret
 exact ⟨rfl,(FR.out.fut hB).out⟩
theorem rjoinOne_any (x y:Int) (d:Node) (W:Option Addr) (nw cw:Nat) (B:Option Addr) (nb cb:Nat) (w:World) (hx:InK .i8 x) (hy:InK .i8 y) (hd:NodeIn d) (hm:mayV d=true) :
  Calls Tryz.prog 61 #[.int .i8 x,.int .i8 y,.agg (nN d.kind d.a d.b d.k d.s d.p d.out d.za d.zb W nw cw B nb cb d.qm d.qs d.qz d.rm d.rs d.rz d.lo d.hi)] w fun e w'=>e=.returned (.int .i8 (joinV d x y))∧Below w.heap.size w w':=by
 have p1:=prod8 hx hd.za hd.qm
 have p2:=prod8 hy hd.zb hd.rm
 have b1:=roundV_le _ d.qs _ p1
 have b2:=roundV_le _ d.rs _ p2
 have Q1:=zH (fun w=>rfixRight_any d.qm d.qs d.qz w)
 have Q2:=zH (fun w=>rfixRight_any d.rm d.rs d.rz w)
 unfold mayV at hm
 simp only [Bool.and_eq_true] at hm
 rw [hm.1] at Q1
 rw [hm.2] at Q2
 unfold joinV
 obtain ⟨m1,k1⟩:∃ r,(x - d.za)*d.qm=r:=⟨_,rfl⟩
 obtain ⟨m2,k2⟩:∃ r,(y - d.zb)*d.rm=r:=⟨_,rfl⟩
 rw [k1] at b1 p1 ⊢
 rw [k2] at b2 p2 ⊢
 have R1:=zH (fun w=>rround_any m1 d.qs w (by rw [inK_i64];omega))
 have R2:=zH (fun w=>rround_any m2 d.rs w (by rw [inK_i64];omega))
 obtain ⟨r1,h1⟩:∃ r,roundV m1 d.qs=r:=⟨_,rfl⟩
 obtain ⟨r2,h2⟩:∃ r,roundV m2 d.rs=r:=⟨_,rfl⟩
 rw [h1] at R1 b1 ⊢
 rw [h2] at R2 b2 ⊢
 have hz:=hd.qz
 have hza:=hd.za
 have hzb:=hd.zb
 have hlo:=hd.lo
 have hhi:=hd.hi
 have hqm:=hd.qm
 have hrm:=hd.rm
 rw [inK_i8] at hz hza hzb hlo hhi hx hy
 rw [inK_i32] at hqm hrm
 obtain ⟨z1,z2⟩:=hz
 obtain ⟨z3,z4⟩:=hza
 obtain ⟨z5,z6⟩:=hzb
 obtain ⟨z7,z8⟩:=hlo
 obtain ⟨z9,z10⟩:=hhi
 obtain ⟨y1,y2⟩:=hx
 obtain ⟨y3,y4⟩:=hy
 obtain ⟨y5,y6⟩:=hqm
 obtain ⟨y7,y8⟩:=hrm
 have p3:-547608330240≤m1∧m1≤547608330240:=by omega
 have p4:-547608330240≤m2∧m2≤547608330240:=by omega
 have p5:-547608330240≤r1∧r1≤547608330240:=by omega
 have p6:-547608330240≤r2∧r2≤547608330240:=by omega
 obtain ⟨p3,p3'⟩:=p3
 obtain ⟨p4,p4'⟩:=p4
 obtain ⟨p5,p5'⟩:=p5
 obtain ⟨p6,p6'⟩:=p6
 clear p1 p2 b1 b2 h1 h2 hm hd
 have CL:=zH (fun w=>rheld_any (r1+r2+d.qz) d.lo d.hi w)
 have FR:=zH (Far.refl w)
 obtain ⟨w1,hw_w1,BN,k_w1⟩:=nB w (nN d.kind d.a d.b d.k d.s d.p d.out d.za d.zb W nw cw B nb cb d.qm d.qs d.qz d.rm d.rs d.rz d.lo d.hi) 44
 replace FR:=zH (FR.out.fut k_w1)
 clear k_w1
 go_enter Tryz.func61,Tryz.ntmps61
 go_wp2_with (first|(refine wpList_load_blk rfl 42 (.tmp 9) rfl w.heap.size 11 rfl _ (nN d.kind d.a d.b d.k d.s d.p d.out d.za d.zb W nw cw B nb cb d.qm d.qs d.qz d.rm d.rs d.rz d.lo d.hi) #[.int .i32 d.qm,.int .i64 d.qs,.int .i8 d.qz] _ BN.out Tryz.underlying42 rfl (by kernel_rfl) rfl ?_)|(refine wpList_load_blk rfl 42 (.tmp 14) rfl w.heap.size 14 rfl _ (nN d.kind d.a d.b d.k d.s d.p d.out d.za d.zb W nw cw B nb cb d.qm d.qs d.qz d.rm d.rs d.rz d.lo d.hi) #[.int .i32 d.rm,.int .i64 d.rs,.int .i8 d.rz] _ BN.out Tryz.underlying42 rfl (by kernel_rfl) rfl ?_)|(go_at_call 53;first|(with_reducible refine (Q1.out _).mono ?_;rintro e w2 ⟨rfl,hb⟩;replace FR:=zH (FR.out.fut hb);replace BN:=zH (BN.out.fut hb);clear hb;have c14:=BN.out.cell 14;have c15:=BN.out.cell 15;have c16:=BN.out.cell 16;simp only [gX] at c14 c15 c16)|(with_reducible refine (Q2.out _).mono ?_;rintro e w3 ⟨rfl,hb⟩;replace FR:=zH (FR.out.fut hb);replace BN:=zH (BN.out.fut hb);clear hb c14 c15 c16 hw_w1;have c7:=BN.out.cell 7;have c11:=BN.out.cell 11;have c12:=BN.out.cell 12)))
 go_wp2_with (go_at_call 94;with_reducible refine (R1.out _).mono ?_;rintro e w4 ⟨rfl,hb⟩;replace FR:=zH (FR.out.fut hb);replace BN:=zH (BN.out.fut hb);clear hb c7 c11 c12;have c8:=BN.out.cell 8;have c14:=BN.out.cell 14;have c15:=BN.out.cell 15)
 go_wp2_with (go_at_call 94;with_reducible refine (R2.out _).mono ?_;rintro e w5 ⟨rfl,hb⟩;replace FR:=zH (FR.out.fut hb);replace BN:=zH (BN.out.fut hb);clear hb c8 c14 c15;have c13:=BN.out.cell 13;have c17:=BN.out.cell 17;have c18:=BN.out.cell 18)
 go_wp2_with (go_at_call 95;refine (CL.out _).mono ?_;rintro e w6 ⟨rfl,rfl⟩)
 go_ret
 exact ⟨rfl,FR.out.out⟩
end Go.Proofs.YtjkmjpjknmghlaaGreat
