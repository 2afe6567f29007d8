/-
  Numbers scaled and held (layer 2): fix.Scale, fix.Held, the document's Held.
  Sums scaled and held, all of a row (layer 2): fix.All, the document's All.
  Sums scaled and held, all of a row (layer 2): the document's All.
  Sums, and numbers, scaled and held (layer 21): act.One, act.Put, the document's One, Put.
-/
import Derived.Test.YtjkmjpjknmghlaaGreatJ23
import Derived.Test.YtjkmjpjknmghlaaGreatJ22
import Derived.Test.YtjkmjpjknmghlaaGreatJ15
set_option linter.unusedVariables false
set_option linter.unusedSimpArgs false
namespace Go.Proofs.YtjkmjpjknmghlaaGreat
open Go.RowKit Go.ChangeShapes Go.WideShapes Fx
set_option maxRecDepth 100000
set_option maxHeartbeats 2000000
theorem roundV_le (v s:Int) (b:Nat) (h:v.natAbs≤b):(roundV v s).natAbs≤b:=by
 unfold roundV
 have:=sizeR_le v.natAbs s.toNat
 split
 ·simp
 ·split <;> omega
theorem prod32 {a b:Int} (ha:InK .i32 a) (hb:InK .i32 b):(a*b).natAbs≤4611686018427387904:=by
 rw [inK_i32] at ha hb
 exact Nat.le_trans (natAbs_mul_le (m:=2147483648) (n:=2147483648) (by omega) (by omega)) (by decide)
theorem scale_any (acc m s:Int) (w:World) (ha:InK .i32 acc) (hm:InK .i32 m) :
  Calls Tryz.prog 131 #[.int .i32 acc,.int .i32 m,.int .i64 s] w fun e w'=>e=.returned (.int .i64 (roundV (acc*m) s))∧Below w.heap.size w w':=by
 have hp:=prod32 ha hm
 rw [inK_i32] at ha hm
 obtain ⟨a1,a2⟩:=ha
 obtain ⟨m1,m2⟩:=hm
 obtain ⟨p,hpp⟩:∃ p,acc*m=p:=⟨_,rfl⟩
 rw [hpp] at hp ⊢
 have e1:IntKind.i64.wrap (acc*m)=p:=by rw [hpp];exact IntWalk.i64_in _ (by omega)
 have RA:=zH (fun w=>round_any p s w (by rw [inK_i64];omega))
 have e3:p≤4611686018427387904:=by omega
 have e4:-4611686018427387904≤p:=by omega
 clear hp
 go_enter Tryz.func131,Tryz.ntmps131
 go_wp2_with (go_at_call 140;refine (RA.out _).mono ?_;rintro e w2 ⟨rfl,hb⟩)
 go_ret
 exact ⟨rfl,hb⟩
def heldQ (acc m s z lo hi:Int):Int:=if quantOk m s=true then w8 (heldV (roundV (acc*m) s+z) lo hi) else 0
theorem heldQ_in (acc m s z lo hi:Int):InK .i8 (heldQ acc m s z lo hi):=by
 unfold heldQ
 split
 ·exact w8_in _
 ·decide
theorem fixHeld_any (acc m s z lo hi:Int) (w:World) (ha:InK .i32 acc) (hm:InK .i32 m) (hz:InK .i8 z) (hlo:InK .i8 lo) (hhi:InK .i8 hi) :
  Calls Tryz.prog 132 #[.int .i32 acc,.agg #[.int .i32 m,.int .i64 s,.int .i8 z],.int .i8 lo,.int .i8 hi] w fun e w'=>e=.returned (.int .i8 (heldQ acc m s z lo hi))∧Below w.heap.size w w':=by
 have hp:=roundV_le (acc*m) s _ (prod32 ha hm)
 have QR:=zH (fun w=>fixRight_any m s z w)
 have SC:=zH (fun w=>scale_any acc m s w ha hm)
 have HH:=zH (show heldQ acc m s z lo hi=if quantOk m s=true then w8 (heldV (roundV (acc*m) s+z) lo hi) else 0 from rfl)
 obtain ⟨r,hr⟩:∃ r,roundV (acc*m) s=r:=⟨_,rfl⟩
 rw [hr] at hp SC HH
 rw [inK_i8] at hz
 obtain ⟨z1,z2⟩:=hz
 have e1:IntKind.i64.wrap (r+z)=r+z:=IntWalk.i64_in _ (by omega)
 have e2:IntKind.i64.wrap z=z:=IntWalk.i64_in _ (by omega)
 have CL:=zH (fun w=>clamp_any (r+z) lo hi w hlo hhi)
 obtain ⟨q,hq⟩:∃ q,quantOk m s=q:=⟨_,rfl⟩
 rw [hq] at QR HH
 have FR:=zH (Far.refl w)
 obtain ⟨w1,hw_w1,BQ,k_w1⟩:=nB w #[.int .i32 m,.int .i64 s,.int .i8 z] 42
 replace FR:=zH (FR.out.fut k_w1)
 clear k_w1
 have d0:=BQ.out.cell 0
 have d1:=BQ.out.cell 1
 have d2:=BQ.out.cell 2
 clear hr hq ha hm hlo hhi
 cases q with
 | false =>
  rw [if_neg (by decide)] at HH
  rw [HH.out]
  go_enter Tryz.func132,Tryz.ntmps132
  go_wp2_with (go_at_call 73;refine (QR.out _).mono ?_;rintro e w2 ⟨rfl,hb⟩)
  go_ret
  exact ⟨rfl,(FR.out.fut hb).out⟩
 | true =>
  rw [if_pos rfl] at HH
  rw [HH.out]
  go_enter Tryz.func132,Tryz.ntmps132
  go_wp2_with (go_at_call 73;refine (QR.out _).mono ?_;rintro e w2 ⟨rfl,hb⟩)
  replace FR:=zH (FR.out.fut hb)
  replace BQ:=zH (BQ.out.fut hb)
  clear d0 d1 d2 hw_w1 hb
  have d0:∀ q:Ext w2,q.1.cell? ⟨w.heap.size,0,none⟩=some (.int .i32 m):=fun q=>(BQ.out.ext q).cell 0
  have d1:∀ q:Ext w2,q.1.cell? ⟨w.heap.size,1,none⟩=some (.int .i64 s):=fun q=>(BQ.out.ext q).cell 1
  have d2:∀ q:Ext w2,q.1.cell? ⟨w.heap.size,2,none⟩=some (.int .i8 z):=fun q=>(BQ.out.ext q).cell 2
  have E1:=zH (fun q:Ext w2=>calls_ext q (SC.out q.1))
  have E2:=zH (fun q:Ext w2=>calls_ext q ((CL.out q.1).mono (fun e w' h=>⟨h.1,by rw [← h.2];exact Below.refl _ _⟩)))
  refine wp_region_ext w2 (by kernel_rfl) (by kernel_rfl) (Below.refl _ _) ?_
  repeat (go_big_quiet_step (first|(exact E1.out _)|(exact E2.out _)))
  refine wpQuiet_nil ?_
  rintro _ ⟨⟨w3,hB⟩,rfl⟩
  go_wp2_with fail
  go_ret
  exact ⟨rfl,(FR.out.fut hB).out⟩
theorem rfixHeld_any (acc m s z lo hi:Int) (w:World) (ha:InK .i32 acc) (hm:InK .i32 m) (hz:InK .i8 z) (hlo:InK .i8 lo) (hhi:InK .i8 hi) :
  Calls Tryz.prog 96 #[.int .i32 acc,.agg #[.int .i32 m,.int .i64 s,.int .i8 z],.int .i8 lo,.int .i8 hi] w fun e w'=>e=.returned (.int .i8 (heldQ acc m s z lo hi))∧Below w.heap.size w w':=by
 have hp:=roundV_le (acc*m) s _ (prod32 ha hm)
 have hp0:=prod32 ha hm
 have QR:=zH (fun w=>rfixRight_any m s z w)
 obtain ⟨pm,hpm⟩:∃ p,acc*m=p:=⟨_,rfl⟩
 rw [hpm] at hp hp0
 have RA:=zH (fun w=>rround_any pm s w (by rw [inK_i64];omega))
 have HH:=zH (show heldQ acc m s z lo hi=if quantOk m s=true then w8 (heldV (roundV (acc*m) s+z) lo hi) else 0 from rfl)
 rw [hpm] at HH
 obtain ⟨r,hr⟩:∃ r,roundV pm s=r:=⟨_,rfl⟩
 rw [hr] at hp RA HH
 rw [inK_i8] at hz hlo hhi
 rw [inK_i32] at ha hm
 obtain ⟨z1,z2⟩:=hz
 obtain ⟨l1,l2⟩:=hlo
 obtain ⟨h1,h2⟩:=hhi
 obtain ⟨a1,a2⟩:=ha
 obtain ⟨m1,m2⟩:=hm
 have e1:IntKind.i64.wrap (r+z)=r+z:=IntWalk.i64_in _ (by omega)
 have e2:IntKind.i64.wrap z=z:=IntWalk.i64_in _ (by omega)
 have e3:IntKind.i64.wrap (acc*m)=pm:=by rw [hpm];exact IntWalk.i64_in _ (by omega)
 have e4:IntKind.i64.wrap acc=acc:=IntWalk.i64_in _ (by omega)
 have e5:IntKind.i64.wrap m=m:=IntWalk.i64_in _ (by omega)
 have CL:=zH (fun w=>rheld_any (r+z) lo hi w)
 have W8:=zH (show w8 (heldV (r+z) lo hi)=IntKind.i8.wrap (heldV (r+z) lo hi) from rfl)
 rw [W8.out] at HH
 obtain ⟨q,hq⟩:∃ q,quantOk m s=q:=⟨_,rfl⟩
 rw [hq] at QR HH
 have FR:=zH (Far.refl w)
 obtain ⟨w1,hw_w1,BQ,k_w1⟩:=nB w #[.int .i32 m,.int .i64 s,.int .i8 z] 42
 replace FR:=zH (FR.out.fut k_w1)
 clear k_w1
 have d0:=BQ.out.cell 0
 have d1:=BQ.out.cell 1
 have d2:=BQ.out.cell 2
 clear hr hq hpm
 cases q with
 | false =>
  rw [if_neg (by decide)] at HH
  rw [HH.out]
  go_enter Tryz.func96,Tryz.ntmps96
  go_wp2_with (go_at_call 53;refine (QR.out _).mono ?_;rintro e w2 ⟨rfl,hb⟩)
  go_ret
  exact ⟨rfl,(FR.out.fut hb).out⟩
 | true =>
  rw [if_pos rfl] at HH
  rw [HH.out]
  go_enter Tryz.func96,Tryz.ntmps96
  go_wp2_with (go_at_call 53;refine (QR.out _).mono ?_;rintro e w2 ⟨rfl,hb⟩)
  replace FR:=zH (FR.out.fut hb)
  replace BQ:=zH (BQ.out.fut hb)
  clear d0 d1 d2 hw_w1 hb
  have d0:∀ q:Ext w2,q.1.cell? ⟨w.heap.size,0,none⟩=some (.int .i32 m):=fun q=>(BQ.out.ext q).cell 0
  have d1:∀ q:Ext w2,q.1.cell? ⟨w.heap.size,1,none⟩=some (.int .i64 s):=fun q=>(BQ.out.ext q).cell 1
  have d2:∀ q:Ext w2,q.1.cell? ⟨w.heap.size,2,none⟩=some (.int .i8 z):=fun q=>(BQ.out.ext q).cell 2
  have E1:=zH (fun q:Ext w2=>calls_ext q (RA.out q.1))
  refine wp_region_ext w2 (by kernel_rfl) (by kernel_rfl) (Below.refl _ _) ?_
  repeat (go_big_quiet_step ((exact E1.out _)))
  refine wpQuiet_nil ?_
  rintro _ ⟨⟨w3,hB⟩,rfl⟩
  go_wp2_with (go_at_call 95;refine (CL.out _).mono ?_;rintro e w4 ⟨rfl,rfl⟩)
  go_ret
  exact ⟨rfl,(FR.out.fut hB).out⟩
end Go.Proofs.YtjkmjpjknmghlaaGreat
namespace Go.Proofs.YtjkmjpjknmghlaaGreat
open Go.RowKit Go.ChangeShapes Go.WideShapes Fx
set_option maxRecDepth 100000
set_option maxHeartbeats 4000000
theorem ei_b8:EI Tryz.prog 25 39 (.int .i8 0) 1 1:=⟨Tryz.underlying25,by kernel_rfl,rfl,by decide⟩
def allQ (l:List Int) (m s z lo hi:Int):List Int:=l.map fun x=>heldQ x m s z lo hi
theorem allQ_range {l:List Int} {n:Nat} (h:l.length=n) (m s z lo hi:Int):allQ l m s z lo hi=(List.range n).map fun i=>heldQ (l.getD i 0) m s z lo hi:=by
 subst h
 unfold allQ
 apply List.ext_getElem (by simp)
 intro i h1 h2
 simp at h1
 simp [List.getD_eq_getElem?_getD,List.getElem?_eq_getElem h1]
theorem fixAll_any (A:Option Addr) (n cap:Nat) (l:List Int) (m s z lo hi:Int) (w:World) (hl:Sl (tInt .i32) w (blo w.heap.size) A n cap l) (hn:n≤1073741824) (hm:InK .i32 m) (hz:InK .i8 z) (hlo:InK .i8 lo) (hhi:InK .i8 hi) (hq:quantOk m s=true) :
  Calls Tryz.prog 124 #[.slice A n cap,.agg #[.int .i32 m,.int .i64 s,.int .i8 z],.int .i8 lo,.int .i8 hi] w (RetSl (tInt .i8) w (allQ l m s z lo hi)):=by
 have HL:=zH hl
 have QR:=zH (fun w=>fixRight_any m s z w)
 rw [hq] at QR
 rw [allQ_range hl.n_eq]
 have HD:=zH (fun x (hx:InK .i32 x) w=>fixHeld_any x m s z lo hi w hx hm hz hlo hhi)
 have mx:n≤9223372036854775807:=by omega
 have FR:=zH (Far.refl w)
 obtain ⟨w1,hw_w1,BQ,k_w1⟩:=nB w #[.int .i32 m,.int .i64 s,.int .i8 z] 42
 replace FR:=zH (FR.out.fut k_w1)
 clear k_w1
 have l1:w.heap.size < w1.heap.size:=by rw [← hw_w1];simp
 have d0:=BQ.out.cell 0
 have d1:=BQ.out.cell 1
 have d2:=BQ.out.cell 2
 clear hq hm hz hlo hhi hl
 go_enter Tryz.func124,Tryz.ntmps124
 go_wp2_with (first|(go_at_call 73;refine (QR.out _).mono ?_;rintro e w2 ⟨rfl,hb⟩;have l2:=hb.size;replace FR:=zH (FR.out.fut hb);replace BQ:=zH (BQ.out.fut hb);clear hb d0 d1 d2 hw_w1)|(at_make;refine wpList_make (t:=tInt .i8) (S:=fun _=>False) (base:=w1.heap.size) rfl _ _ rfl ei_b8 .i64 .i64 _ _ n rfl rfl rfl rfl ?_ ?_ ?_ 0 ⟨rfl,by decide⟩ (fun _ h=>h.elim) ?_;rotate_right;intro w3 hown hg))
 rotate_left
 ·omega
 ·unfold maxLen;omega
 ·omega
 have kb:Below w2.heap.size w2 w3:=(Below.refl _ _).grown hg (Nat.le_refl _) (by simp)
 replace hown:=(filling_zero 0 (fun i=>heldQ (l.getD i 0) m s z lo hi) n).symm ▸ hown
 have ON:=zH hown
 have LG:=zH (show w.heap.size < w2.heap.size by omega)
 replace FR:=zH (FR.out.fut kb)
 replace BQ:=zH (BQ.out.fut kb)
 clear kb
 clear hown hg QR
 go_loopw [19] (fun ii wr=>∃ k:Nat,k≤n∧ii=.int .i64 k∧Far w wr∧Blk wr w.heap.size 42 #[.int .i32 m,.int .i64 s,.int .i8 z]∧Own (tInt .i8) wr (fun _=>False) w1.heap.size 39 (.slice (some ⟨w2.heap.size,0,none⟩) n n) n (filling 0 (fun i=>heldQ (l.getD i 0) m s z lo hi) n k)) (fun ii _=>n - (intOf ii).toNat)
 case atStart=>exact ⟨0,Nat.zero_le _,rfl,FR.out,BQ.out,ON.out⟩
 case round =>
  obtain ⟨k,hk,rfl,hf,hbq,hon⟩:=hrel
  clear FR BQ ON
  have FR:=zH hf
  have BQ:=zH hbq
  have ON:=zH hon
  clear hf hbq hon
  by_cases hlt:k < n
  ·have p1:(k:Int) < (n:Int):=by omega
   go_wp2_with fail
   obtain ⟨b,o,rfl,-,-,cx,ix⟩:=((Old.now HL.out).fut FR.out.out).all.int_at k hlt
   have FS:=zH (filling_set 0 (fun i=>heldQ (l.getD i 0) m s z lo hi) n k hlt)
   obtain ⟨x,hx⟩:∃ x,l.getD k 0=x:=⟨_,rfl⟩
   rw [hx] at cx ix
   have CX:=zH (HD.out x ix)
   have FE:=zH (show heldQ (l.getD k 0) m s z lo hi=heldQ x m s z lo hi by rw [hx])
   obtain ⟨res,hres⟩:∃ r,heldQ x m s z lo hi=r:=⟨_,rfl⟩
   rw [hres] at CX FE
   have RE:=zH (show InK .i8 res by rw [← hres];exact heldQ_in _ _ _ _ _ _)
   clear hx hres
   refine wp_region_T (fun w'=>w'.cell? ⟨b,o+k,none⟩=some (.int .i32 x)∧Blk w' w.heap.size 42 #[.int .i32 m,.int .i64 s,.int .i8 z]∧Below wr.drew.heap.size wr.drew w') 10 (by kernel_rfl) ?_ (fun hS=>?_)
   ·exact ⟨cell_later ((Below.refl _ _).drew) cx,BQ.out.drew,Below.refl _ _⟩
   refine kT 0 rfl hS ?_
   try simp only [pX]
   refine kT 1 rfl hS ?_
   try simp only [pX]
   refine kT 2 rfl hS ?_
   try simp only [pX]
   refine kT 3 rfl hS ?_
   try simp only [pX]
   refine kT 4 rfl hS ?_
   try simp only [pX]
   refine kT 5 rfl hS ?_
   try simp only [pX]
   refine tkT 6 rfl (yieldsIf_load_blk (by rfl) 42 (.tmp 5) rfl w.heap.size 0 rfl _ _ #[.int .i32 m,.int .i64 s,.int .i8 z] _ (fun w hs=>hs.2.1) Tryz.underlying42 rfl (by kernel_rfl) rfl) hS ?_
   try simp only [pX]
   refine kT 7 rfl hS ?_
   try simp only [pX]
   refine kT 8 rfl hS ?_
   try simp only [pX]
   refine wpAnyT_one (i:=9) (by kernel_rfl) rfl rfl (fun K hK=>?_)
   go_simp
   refine (CX.out _).mono ?_;rintro e wm ⟨rfl,hb⟩
   refine hK.out _ _ ?_ (fun hS=>?_)
   ·exact ⟨(by first|exact cell_later hb hS.1|exact Blk.later hS.1 hb),(by first|exact cell_later hb hS.2.1|exact Blk.later hS.2.1 hb),(by first|exact below_later hb hS.2.2|exact grown_below hS.2.2 hb)⟩
   clear hK K
   try simp only [pX]
   refine wpAnyT_tail _ _ rfl rfl (by kernel_rfl) ?_
   have kd:=(show Below wr.heap.size wr wr.drew from (Below.refl _ _).drew).trans hb
   replace ON:=zH (ON.out.below kd (Nat.le_refl _) (fun _ h=>h.elim))
   replace FR:=zH (FR.out.fut kd)
   replace BQ:=zH (BQ.out.fut kd)
   clear hS hb kd cx
   obtain ⟨x1,u1,-,-,c5,c6,c7,-⟩:=ON.out.cell rfl k hlt
   go_wp2_with fail
   obtain ⟨o3,g3⟩:=ON.out.set1 rfl k (.int .i8 res) res ⟨rfl,RE.out⟩ (fun _ h=>h.elim)
   have fs:=FS.out
   rw [FE.out] at fs
   rw [fs] at o3
   have lg:=LG.out
   exact ⟨⟨k+1,by omega,by go_num,FR.out.away g3 (by omega),BQ.out.away g3 (.inl lg),o3⟩,by simp [intOf];omega⟩
  ·obtain rfl:k=n:=by omega
   go_wp2_with fail
   go_ret
   have e:=ON.out
   rw [filling_all] at e
   obtain ⟨A2,c2,hv,sl⟩:=e.sl (S':=bin w.heap.size _) (by decide) (fun b h1 h2=>⟨by omega,h2⟩) (fun b h=>h.elim)
   injection hv with hv1 hv2 hv3
   subst hv1 hv3
   exact ⟨_,_,_,rfl,sl,FR.out.out⟩
end Go.Proofs.YtjkmjpjknmghlaaGreat
namespace Go.Proofs.YtjkmjpjknmghlaaGreat
open Go.RowKit Go.ChangeShapes Go.WideShapes Fx
set_option maxRecDepth 100000
set_option maxHeartbeats 4000000
theorem rfixAll_any (A:Option Addr) (n cap:Nat) (l:List Int) (m s z lo hi:Int) (w:World) (hl:Sl (tInt .i32) w (blo w.heap.size) A n cap l) (hn:n≤1073741824) (hm:InK .i32 m) (hz:InK .i8 z) (hlo:InK .i8 lo) (hhi:InK .i8 hi) (hq:quantOk m s=true) :
  Calls Tryz.prog 67 #[.slice A n cap,.agg #[.int .i32 m,.int .i64 s,.int .i8 z],.int .i8 lo,.int .i8 hi] w (RetSl (tInt .i8) w (allQ l m s z lo hi)):=by
 have HL:=zH hl
 have QR:=zH (fun w=>rfixRight_any m s z w)
 rw [hq] at QR
 rw [allQ_range hl.n_eq]
 have HD:=zH (fun x (hx:InK .i32 x) w=>rfixHeld_any x m s z lo hi w hx hm hz hlo hhi)
 have mx:n≤9223372036854775807:=by omega
 have FR:=zH (Far.refl w)
 obtain ⟨w1,hw_w1,BQ,k_w1⟩:=nB w #[.int .i32 m,.int .i64 s,.int .i8 z] 42
 replace FR:=zH (FR.out.fut k_w1)
 clear k_w1
 have l1:w1.heap.size=w.heap.size+1:=by rw [← hw_w1];simp
 clear hq hm hz hlo hhi hl
 go_enter Tryz.func67,Tryz.ntmps67
 go_wp2_with fail
 clear hw_w1
 have ON:=zH (show Own (tInt .i8) w1 (fun _=>False) w1.heap.size 39 (.slice none 0 0) 0 ((List.range 0).map fun i=>heldQ (l.getD i 0) m s z lo hi) from Own.nil _ _ _ _ _)
 go_loopw [9,10] (fun u ii wr=>∃ k:Nat,k≤n∧ii=.int .i64 k∧Far w wr∧Blk wr w.heap.size 42 #[.int .i32 m,.int .i64 s,.int .i8 z]∧Own (tInt .i8) wr (fun _=>False) w1.heap.size 39 u k ((List.range k).map fun i=>heldQ (l.getD i 0) m s z lo hi)) (fun _ ii _=>n - (intOf ii).toNat)
 case atStart=>exact ⟨0,Nat.zero_le _,rfl,FR.out,BQ.out,ON.out⟩
 case round =>
  obtain ⟨k,hk,rfl,hf,hbq,hon⟩:=hrel
  clear FR BQ ON
  have FR:=zH hf
  have BQ:=zH hbq
  have ON:=zH hon
  clear hf hbq hon
  have d0:=BQ.out.cell 0
  have d1:=BQ.out.cell 1
  have d2:=BQ.out.cell 2
  by_cases hlt:k < n
  ·have p1:(k:Int) < (n:Int):=by omega
   go_wp2_with (go_at_call 53;refine (QR.out _).mono ?_;rintro e w2 ⟨rfl,hb⟩;replace ON:=zH (ON.out.below hb (Nat.le_refl _) (fun _ h=>h.elim));replace FR:=zH (FR.out.fut hb);replace BQ:=zH (BQ.out.fut hb);clear hb d0 d1 d2)
   obtain ⟨b,o,rfl,-,-,cx,ix⟩:=((Old.now HL.out).fut FR.out.out).all.int_at k hlt
   have FS:=zH (range_snoc (fun i=>heldQ (l.getD i 0) m s z lo hi) k)
   obtain ⟨x,hx⟩:∃ x,l.getD k 0=x:=⟨_,rfl⟩
   rw [hx] at cx ix
   have CX:=zH (HD.out x ix)
   have FE:=zH (show heldQ (l.getD k 0) m s z lo hi=heldQ x m s z lo hi by rw [hx])
   obtain ⟨res,hres⟩:∃ r,heldQ x m s z lo hi=r:=⟨_,rfl⟩
   rw [hres] at CX FE
   have RE:=zH (show InK .i8 res by rw [← hres];exact heldQ_in _ _ _ _ _ _)
   have OD:=zH (ON.out.heap (w':=w2.drew) rfl)
   have fd:Below w.heap.size w w2.drew:=FR.out.out.drew
   have bd:=BQ.out.lt
   have cd:=cell_later ((show Below w2.heap.size w2 w2.drew from (Below.refl _ _).drew)) cx
   have hb9:b < w.heap.size:=by
    obtain ⟨b',o',e',q1,q2,-,-⟩:=HL.out.int_at k hlt
    simp only [Option.some.injEq,Addr.mk.injEq,and_true] at e'
    rw [e'.1]
    exact q1
   have nu:=zH (show ∀ b,b < w1.heap.size → some b ≠ u9.ownBlock from fun b hb e=>absurd (ON.out.lt b e.symm).1 (by omega))
   clear hx hres cx
   refine wp_region_T (fun w'=>w'.cell? ⟨b,o+k,none⟩=some (.int .i32 x)∧Blk w' w.heap.size 42 #[.int .i32 m,.int .i64 s,.int .i8 z]∧Below w.heap.size w w') 11 (by kernel_rfl) ?_ (fun hS=>?_)
   ·exact ⟨cd,BQ.out.drew,fd⟩
   refine kT 0 rfl hS ?_
   try simp only [pX]
   refine kT 1 rfl hS ?_
   try simp only [pX]
   refine kT 2 rfl hS ?_
   try simp only [pX]
   refine kT 3 rfl hS ?_
   try simp only [pX]
   refine kT 4 rfl hS ?_
   try simp only [pX]
   refine tkT 5 rfl (yieldsIf_load_blk (by rfl) 42 (.tmp 5) rfl w.heap.size 0 rfl _ _ #[.int .i32 m,.int .i64 s,.int .i8 z] _ (fun w hs=>hs.2.1) Tryz.underlying42 rfl (by kernel_rfl) rfl) hS ?_
   try simp only [pX]
   refine kT 6 rfl hS ?_
   try simp only [pX]
   refine kT 7 rfl hS ?_
   try simp only [pX]
   refine wpAnyT_one (i:=8) (by kernel_rfl) rfl rfl (fun K hK=>?_)
   go_simp
   refine (CX.out _).mono ?_;rintro e wa ⟨rfl,hb⟩;have OA:=zH (OD.out.below hb (Nat.le_refl _) (fun _ h=>h.elim));have za:w1.heap.size≤wa.heap.size:=(by have:=hb.size;have:w2.drew.heap.size=w2.heap.size:=rfl;omega);have XX:=zH (And.intro (cell_later hb cd) (And.intro (BQ.out.drew.later hb) (below_call fd hb fd.size)))
   refine hK.out _ _ ?_ (fun hS=>?_)
   ·exact ⟨(by first|exact cell_later hb hS.1|exact Blk.later hS.1 hb),(by first|exact cell_later hb hS.2.1|exact Blk.later hS.2.1 hb),(by first|exact below_later hb hS.2.2|exact grown_below hS.2.2 hb)⟩
   clear hK K
   try simp only [pX]
   refine wpAnyT_one (i:=9) (by kernel_rfl) rfl rfl (fun K hK=>?_)
   go_simp
   have hb:Below wa.heap.size wa (wa.alloc (.cells #[.int .i8 res] 39)):=(Below.refl _ _).alloc (Nat.le_refl _) _
   refine hK.out _ _ ?_ (fun hS=>?_)
   ·exact ⟨(by first|exact cell_later hb hS.1|exact Blk.later hS.1 hb),(by first|exact cell_later hb hS.2.1|exact Blk.later hS.2.1 hb),(by first|exact below_later hb hS.2.2|exact grown_below hS.2.2 hb)⟩
   clear hK K
   try simp only [pX]
   refine wpAnyT_one (i:=10) (by kernel_rfl) rfl rfl (fun K hK=>?_)
   (rw [if_pos (by rfl)];refine oper_push (W:=wa) (cs:=#[.int .i8 res]) (E:=39) (t:=tInt .i8) (.tmp 21) (.tmp 30) rfl ei_b8 rfl OA.out 1 rfl res ⟨rfl,RE.out⟩ (by unfold maxLen;omega) (by omega) za (fun _ h=>h.elim) ?_;intro u' w7 own7 g7 at7;refine hK.out _ _ ⟨cell_grown g7 XX.out.1 (nu.out b (by omega)),XX.out.2.1.rowR g7 (nu.out _ (by omega)),XX.out.2.2.grown g7 XX.out.2.2.size (fun j hj=>Nat.le_trans (by omega) (OA.out.lt j hj).1)⟩ (fun hS=>?_))
   clear hK K
   try simp only [pX]
   refine wpAnyT_tail _ _ rfl rfl (by kernel_rfl) ?_
   have F7:=zH (show Far w w7 from ⟨hS.2.2⟩)
   have B7:=zH hS.2.1
   have fs:=FS.out
   rw [FE.out] at fs
   rw [fs] at own7
   have O7:=zH own7
   clear hS hb nu at7 g7 own7 fs cd
   go_wp2_with fail
   exact ⟨⟨k+1,by omega,by go_num,F7.out,B7.out,O7.out⟩,by simp [intOf];omega⟩
  ·obtain rfl:k=n:=by omega
   go_wp2_with fail
   go_ret
   obtain ⟨A2,c2,rfl,sl⟩:=ON.out.sl (S':=bin w.heap.size _) (by decide) (fun b h1 h2=>⟨by omega,h2⟩) (fun b h=>h.elim)
   exact ⟨_,_,_,rfl,sl,FR.out.out⟩
end Go.Proofs.YtjkmjpjknmghlaaGreat
namespace Go.Proofs.YtjkmjpjknmghlaaGreat
open Go.RowKit Go.ChangeShapes Go.WideShapes Fx
set_option maxRecDepth 100000
set_option maxHeartbeats 4000000
def oneV (d:Node) (x:Int):Int:=heldQ (x - d.za) d.qm d.qs d.qz d.lo d.hi
theorem oneV_in (d:Node) (x:Int):InK .i8 (oneV d x):=heldQ_in _ _ _ _ _ _
theorem actOne_any (x:Int) (d:Node) (W:Option Addr) (nw cw:Nat) (B:Option Addr) (nb cb:Nat) (w:World) (hx:InK .i8 x) (hd:NodeIn d) :
  Calls Tryz.prog 116 #[.int .i8 x,.agg (nN d.kind d.a d.b d.k d.s d.p d.out d.za d.zb W nw cw B nb cb d.qm d.qs d.qz d.rm d.rs d.rz d.lo d.hi)] w fun e w'=>e=.returned (.int .i8 (oneV d x))∧Below w.heap.size w w':=by
 have hz:=hd.za
 have HX:=hx
 rw [inK_i8] at hx hz
 obtain ⟨x1,x2⟩:=hx
 obtain ⟨z1,z2⟩:=hz
 have FR:=zH (Far.refl w)
 obtain ⟨w1,hw_w1,BN,k_w1⟩:=nB w (nN d.kind d.a d.b d.k d.s d.p d.out d.za d.zb W nw cw B nb cb d.qm d.qs d.qz d.rm d.rs d.rz d.lo d.hi) 44
 replace FR:=zH (FR.out.fut k_w1)
 clear k_w1
 have HE:=zH (fun w=>fixHeld_any (x - d.za) d.qm d.qs d.qz d.lo d.hi w (by rw [inK_i32];omega) hd.qm hd.qz hd.lo hd.hi)
 have d7:=BN.out.cell 7
 have d17:=BN.out.cell 17
 have d18:=BN.out.cell 18
 unfold oneV
 clear hd HX
 go_enter Tryz.func116,Tryz.ntmps116
 go_wp2_with (first|(refine wpList_load_blk rfl 42 (.tmp 11) rfl w.heap.size 11 rfl _ (nN d.kind d.a d.b d.k d.s d.p d.out d.za d.zb W nw cw B nb cb d.qm d.qs d.qz d.rm d.rs d.rz d.lo d.hi) #[.int .i32 d.qm,.int .i64 d.qs,.int .i8 d.qz] _ BN.out Tryz.underlying42 rfl (by kernel_rfl) rfl ?_)|(go_at_call 132;refine (HE.out _).mono ?_;rintro e w2 ⟨rfl,hb⟩))
 go_ret
 exact ⟨rfl,(FR.out.fut hb).out⟩
theorem ractOne_any (x:Int) (d:Node) (W:Option Addr) (nw cw:Nat) (B:Option Addr) (nb cb:Nat) (w:World) (hx:InK .i8 x) (hd:NodeIn d) :
  Calls Tryz.prog 62 #[.int .i8 x,.agg (nN d.kind d.a d.b d.k d.s d.p d.out d.za d.zb W nw cw B nb cb d.qm d.qs d.qz d.rm d.rs d.rz d.lo d.hi)] w fun e w'=>e=.returned (.int .i8 (oneV d x))∧Below w.heap.size w w':=by
 have hz:=hd.za
 have HX:=hx
 rw [inK_i8] at hx hz
 obtain ⟨x1,x2⟩:=hx
 obtain ⟨z1,z2⟩:=hz
 have FR:=zH (Far.refl w)
 obtain ⟨w1,hw_w1,BN,k_w1⟩:=nB w (nN d.kind d.a d.b d.k d.s d.p d.out d.za d.zb W nw cw B nb cb d.qm d.qs d.qz d.rm d.rs d.rz d.lo d.hi) 44
 replace FR:=zH (FR.out.fut k_w1)
 clear k_w1
 have HE:=zH (fun w=>rfixHeld_any (x - d.za) d.qm d.qs d.qz d.lo d.hi w (by rw [inK_i32];omega) hd.qm hd.qz hd.lo hd.hi)
 have d7:=BN.out.cell 7
 have d17:=BN.out.cell 17
 have d18:=BN.out.cell 18
 unfold oneV
 clear hd HX
 go_enter Tryz.func62,Tryz.ntmps62
 go_wp2_with (first|(refine wpList_load_blk rfl 42 (.tmp 11) rfl w.heap.size 11 rfl _ (nN d.kind d.a d.b d.k d.s d.p d.out d.za d.zb W nw cw B nb cb d.qm d.qs d.qz d.rm d.rs d.rz d.lo d.hi) #[.int .i32 d.qm,.int .i64 d.qs,.int .i8 d.qz] _ BN.out Tryz.underlying42 rfl (by kernel_rfl) rfl ?_)|(go_at_call 96;refine (HE.out _).mono ?_;rintro e w2 ⟨rfl,hb⟩))
 go_ret
 exact ⟨rfl,(FR.out.fut hb).out⟩
def putQ (a:Tensor) (d:Node):Tensor × Int:=if quantOk d.qm d.qs=true then (⟨a.h,a.v,a.c,allQ a.data d.qm d.qs d.qz d.lo d.hi⟩,0) else (noTensor,7)
theorem actPut_any (a:Tensor) (A:Option Addr) (n cap:Nat) (d:Node) (W:Option Addr) (nw cw:Nat) (B:Option Addr) (nb cb:Nat) (w:World) (ht:TensorIn a) (hd:NodeIn d)
  (ha:Sl (tInt .i32) w (blo w.heap.size) A n cap a.data) (he:elems a.h a.v a.c=n) (hn:0 < n) (hn2:n≤1024) :
  Calls Tryz.prog 90 #[.agg (tN a.h a.v a.c A n cap),.agg (nN d.kind d.a d.b d.k d.s d.p d.out d.za d.zb W nw cw B nb cb d.qm d.qs d.qz d.rm d.rs d.rz d.lo d.hi)] w (RetT .i8 (putQ a d).1 (putQ a d).2 w):=by
 have EL:=zH (fun w=>elems_any a.h a.c a.v w ht.h ht.v ht.c)
 rw [he] at EL
 have QR:=zH (fun w=>fixRight_any d.qm d.qs d.qz w)
 have HA:=zH ha
 have HD:=zH hd
 have FR:=zH (Far.refl w)
 obtain ⟨w1,hw_w1,BA,k_w1⟩:=nB w (tN a.h a.v a.c A n cap) 78
 replace FR:=zH (FR.out.fut k_w1)
 clear k_w1
 obtain ⟨w2,hw_w2,BN,k_w2⟩:=nB w1 (nN d.kind d.a d.b d.k d.s d.p d.out d.za d.zb W nw cw B nb cb d.qm d.qs d.qz d.rm d.rs d.rz d.lo d.hi) 44
 replace FR:=zH (FR.out.fut k_w2)
 replace BA:=zH (BA.out.fut k_w2)
 clear k_w2
 obtain ⟨w3,hw_w3,BR,k_w3⟩:=nB w2 (tN 0 0 0 none 0 0) 27
 replace FR:=zH (FR.out.fut k_w3)
 replace BA:=zH (BA.out.fut k_w3)
 replace BN:=zH (BN.out.fut k_w3)
 clear k_w3
 have l1:w.heap.size < w1.heap.size:=by rw [← hw_w1];simp
 have l2:w1.heap.size < w2.heap.size:=by rw [← hw_w2];simp
 have n0:¬ n=0:=by omega
 have HQ:=zH (show putQ a d=if quantOk d.qm d.qs=true then (⟨a.h,a.v,a.c,allQ a.data d.qm d.qs d.qz d.lo d.hi⟩,0) else (noTensor,7) from rfl)
 obtain ⟨x,hx⟩:∃ x,putQ a d=x:=⟨_,rfl⟩
 rw [hx] at HQ ⊢
 obtain ⟨q,hq⟩:∃ q,quantOk d.qm d.qs=q:=⟨_,rfl⟩
 rw [hq] at QR HQ
 have QQ:=zH hq
 have c3:=BA.out.cell 3
 clear ht hd ha he hx hq hn
 cases q with
 | false =>
  rw [if_neg (by decide)] at HQ
  rw [HQ.out]
  go_enter Tryz.func90,Tryz.ntmps90
  go_wp2_with (first|(refine wpList_load_blk rfl 24 (.tmp 7) rfl w.heap.size 0 rfl _ (tN a.h a.v a.c A n cap) (sN a.h a.v a.c) _ BA.out Tryz.underlying24 rfl (by kernel_rfl) rfl ?_)|(go_at_call 23;refine (EL.out _).mono ?_;rintro e wa ⟨rfl,hb⟩;replace FR:=zH (FR.out.fut hb);replace BA:=zH (BA.out.fut hb);replace BN:=zH (BN.out.fut hb);replace BR:=zH (BR.out.fut hb);clear hb;clear c3;have c3:=BA.out.cell 3)|(refine wpList_load_blk rfl 42 (.tmp 20) rfl w1.heap.size 11 rfl _ (nN d.kind d.a d.b d.k d.s d.p d.out d.za d.zb W nw cw B nb cb d.qm d.qs d.qz d.rm d.rs d.rz d.lo d.hi) #[.int .i32 d.qm,.int .i64 d.qs,.int .i8 d.qz] _ BN.out Tryz.underlying42 rfl (by kernel_rfl) rfl ?_)|(go_at_call 73;refine (QR.out _).mono ?_;rintro e wb ⟨rfl,hb⟩;replace FR:=zH (FR.out.fut hb);replace BA:=zH (BA.out.fut hb);replace BN:=zH (BN.out.fut hb);replace BR:=zH (BR.out.fut hb);clear hb)|(refine sB 27 (.tmp 4) (.tmp 24) w2.heap.size (tN 0 0 0 none 0 0) BR.out ?_;intro w9 B9 g9))
  refine rC B9 Tryz.underlying27 ?_
  exact RetT.none (FR.out.away g9 (by omega)).out
 | true =>
  rw [if_pos rfl] at HQ
  rw [HQ.out]
  go_enter Tryz.func90,Tryz.ntmps90
  go_wp2_with (first|(refine wpList_load_blk rfl 24 (.tmp 7) rfl w.heap.size 0 rfl _ (tN a.h a.v a.c A n cap) (sN a.h a.v a.c) _ BA.out Tryz.underlying24 rfl (by kernel_rfl) rfl ?_)|(go_at_call 23;refine (EL.out _).mono ?_;rintro e wa ⟨rfl,hb⟩;replace FR:=zH (FR.out.fut hb);replace BA:=zH (BA.out.fut hb);replace BN:=zH (BN.out.fut hb);replace BR:=zH (BR.out.fut hb);clear hb;clear c3;have c3:=BA.out.cell 3)|(refine wpList_load_blk rfl 42 (.tmp 20) rfl w1.heap.size 11 rfl _ (nN d.kind d.a d.b d.k d.s d.p d.out d.za d.zb W nw cw B nb cb d.qm d.qs d.qz d.rm d.rs d.rz d.lo d.hi) #[.int .i32 d.qm,.int .i64 d.qs,.int .i8 d.qz] _ BN.out Tryz.underlying42 rfl (by kernel_rfl) rfl ?_)|(go_at_call 73;refine (QR.out _).mono ?_;rintro e wb ⟨rfl,hb⟩;replace FR:=zH (FR.out.fut hb);replace BA:=zH (BA.out.fut hb);replace BN:=zH (BN.out.fut hb);replace BR:=zH (BR.out.fut hb);clear hb))
  have fd:Below w.heap.size w wb.drew:=FR.out.out.drew
  refine wp_region_T (fun w'=>w'.cell? ⟨w.heap.size,3,none⟩=some (.slice A n cap)∧w'.cell? ⟨w1.heap.size,17,none⟩=some (.int .i8 d.lo)∧w'.cell? ⟨w1.heap.size,18,none⟩=some (.int .i8 d.hi)∧Blk w' w.heap.size 78 (tN a.h a.v a.c A n cap)∧Blk w' w1.heap.size 44 (nN d.kind d.a d.b d.k d.s d.p d.out d.za d.zb W nw cw B nb cb d.qm d.qs d.qz d.rm d.rs d.rz d.lo d.hi)∧Below wb.drew.heap.size wb.drew w') 12 (by kernel_rfl) ?_ (fun hS=>?_)
  ·exact ⟨BA.out.drew.cell 3,BN.out.drew.cell 17,BN.out.drew.cell 18,BA.out.drew,BN.out.drew,Below.refl _ _⟩
  refine kT 0 rfl hS ?_
  try simp only [pX]
  refine tkT 1 rfl (yieldsIf_load_blk (by rfl) 24 (.tmp 25) rfl w.heap.size 0 rfl _ (tN a.h a.v a.c A n cap) (sN a.h a.v a.c) _ (fun w hs=>hs.2.2.2.1) Tryz.underlying24 rfl (by kernel_rfl) rfl) hS ?_
  try simp only [pX]
  refine kT 2 rfl hS ?_
  try simp only [pX]
  refine kT 3 rfl hS ?_
  try simp only [pX]
  refine kT 4 rfl hS ?_
  try simp only [pX]
  refine tkT 5 rfl (yieldsIf_load_blk (by rfl) 42 (.tmp 29) rfl w1.heap.size 11 rfl _ (nN d.kind d.a d.b d.k d.s d.p d.out d.za d.zb W nw cw B nb cb d.qm d.qs d.qz d.rm d.rs d.rz d.lo d.hi) #[.int .i32 d.qm,.int .i64 d.qs,.int .i8 d.qz] _ (fun w hs=>hs.2.2.2.2.1) Tryz.underlying42 rfl (by kernel_rfl) rfl) hS ?_
  try simp only [pX]
  refine kT 6 rfl hS ?_
  try simp only [pX]
  refine kT 7 rfl hS ?_
  try simp only [pX]
  refine kT 8 rfl hS ?_
  try simp only [pX]
  refine kT 9 rfl hS ?_
  try simp only [pX]
  refine wpAnyT_one (i:=10) (by kernel_rfl) rfl rfl (fun K hK=>?_)
  go_simp
  refine (fixAll_any A n cap a.data d.qm d.qs d.qz d.lo d.hi _ ((Old.now HA.out).fut fd).all (by omega) HD.out.qm HD.out.qz HD.out.lo HD.out.hi QQ.out).mono ?_;rintro e wm ⟨RA,rn,rc,rfl,rs,hb⟩
  refine hK.out _ _ ?_ (fun hS=>?_)
  ·exact ⟨(by first|exact cell_later hb hS.1|exact Blk.later hS.1 hb),(by first|exact cell_later hb hS.2.1|exact Blk.later hS.2.1 hb),(by first|exact cell_later hb hS.2.2.1|exact Blk.later hS.2.2.1 hb),(by first|exact cell_later hb hS.2.2.2.1|exact Blk.later hS.2.2.2.1 hb),(by first|exact cell_later hb hS.2.2.2.2.1|exact Blk.later hS.2.2.2.2.1 hb),(by first|exact below_later hb hS.2.2.2.2.2|exact grown_below hS.2.2.2.2.2 hb)⟩
  clear hK K
  try simp only [pX]
  refine kT 11 rfl hS ?_
  try simp only [pX]
  refine wpAnyT_tail _ _ rfl rfl (by kernel_rfl) ?_
  have kd:=(show Below wb.heap.size wb wb.drew from (Below.refl _ _).drew).trans hb
  have RS:=zH (show New wb (tInt .i8) wm RA rn rc (allQ a.data d.qm d.qs d.qz d.lo d.hi) from ⟨rs⟩)
  have BR5:=zH (BR.out.fut kd)
  replace FR:=zH (FR.out.fut kd)
  have lbr:=BR.out.lt
  clear hS hb rs kd
  go_wp2_with (refine sB 27 (.tmp 4) (.tmp 36) w2.heap.size (tN a.h a.v a.c RA rn rc) BR5.out ?_;intro w9 B9 g9)
  refine rC B9 Tryz.underlying27 ?_
  exact ⟨RA,rn,rc,rfl,(RS.out.away g9 lbr).out.more (bin_more (by omega) (Nat.le_refl _)),(FR.out.away g9 (by omega)).out⟩
theorem ractPut_any (a:Tensor) (A:Option Addr) (n cap:Nat) (d:Node) (W:Option Addr) (nw cw:Nat) (B:Option Addr) (nb cb:Nat) (w:World) (ht:TensorIn a) (hd:NodeIn d)
  (ha:Sl (tInt .i32) w (blo w.heap.size) A n cap a.data) (he:elems a.h a.v a.c=n) (hn:0 < n) (hn2:n≤1024) :
  Calls Tryz.prog 39 #[.agg (tN a.h a.v a.c A n cap),.agg (nN d.kind d.a d.b d.k d.s d.p d.out d.za d.zb W nw cw B nb cb d.qm d.qs d.qz d.rm d.rs d.rz d.lo d.hi)] w (RetT .i8 (putQ a d).1 (putQ a d).2 w):=by
 have EL:=zH (fun w=>relems_any a.h a.c a.v w ht.h ht.v ht.c)
 rw [he] at EL
 have QR:=zH (fun w=>rfixRight_any d.qm d.qs d.qz w)
 have HA:=zH ha
 have HD:=zH hd
 have FR:=zH (Far.refl w)
 obtain ⟨w1,hw_w1,BA,k_w1⟩:=nB w (tN a.h a.v a.c A n cap) 78
 replace FR:=zH (FR.out.fut k_w1)
 clear k_w1
 obtain ⟨w2,hw_w2,BN,k_w2⟩:=nB w1 (nN d.kind d.a d.b d.k d.s d.p d.out d.za d.zb W nw cw B nb cb d.qm d.qs d.qz d.rm d.rs d.rz d.lo d.hi) 44
 replace FR:=zH (FR.out.fut k_w2)
 replace BA:=zH (BA.out.fut k_w2)
 clear k_w2
 obtain ⟨w3,hw_w3,BR,k_w3⟩:=nB w2 (tN 0 0 0 none 0 0) 27
 replace FR:=zH (FR.out.fut k_w3)
 replace BA:=zH (BA.out.fut k_w3)
 replace BN:=zH (BN.out.fut k_w3)
 clear k_w3
 have l1:w.heap.size < w1.heap.size:=by rw [← hw_w1];simp
 have l2:w1.heap.size < w2.heap.size:=by rw [← hw_w2];simp
 have n0:¬ n=0:=by omega
 have HQ:=zH (show putQ a d=if quantOk d.qm d.qs=true then (⟨a.h,a.v,a.c,allQ a.data d.qm d.qs d.qz d.lo d.hi⟩,0) else (noTensor,7) from rfl)
 obtain ⟨x,hx⟩:∃ x,putQ a d=x:=⟨_,rfl⟩
 rw [hx] at HQ ⊢
 obtain ⟨q,hq⟩:∃ q,quantOk d.qm d.qs=q:=⟨_,rfl⟩
 rw [hq] at QR HQ
 have QQ:=zH hq
 have c3:=BA.out.cell 3
 clear ht hd ha he hx hq hn
 cases q with
 | false =>
  rw [if_neg (by decide)] at HQ
  rw [HQ.out]
  go_enter Tryz.func39,Tryz.ntmps39
  go_wp2_with fail
  clear hw_w1 hw_w2 hw_w3 c3
  have x0:∀ q:Ext w3,q.1.cell? ⟨w.heap.size,0,none⟩=some (.int .i64 a.h):=fun q=>(BA.out.ext q).cell 0
  have x1:∀ q:Ext w3,q.1.cell? ⟨w.heap.size,1,none⟩=some (.int .i64 a.v):=fun q=>(BA.out.ext q).cell 1
  have x2:∀ q:Ext w3,q.1.cell? ⟨w.heap.size,2,none⟩=some (.int .i64 a.c):=fun q=>(BA.out.ext q).cell 2
  have x3:∀ q:Ext w3,q.1.cell? ⟨w.heap.size,3,none⟩=some (.slice A n cap):=fun q=>(BA.out.ext q).cell 3
  have E1:=zH (fun q:Ext w3=>calls_ext q (EL.out q.1))
  have tt1:decide ((n:Int)=0)=false:=by simp;omega
  have tt2:((n:Int) == 0)=false:=by simp;omega
  refine wp_region_ext w3 (by kernel_rfl) (by kernel_rfl) (Below.refl _ _) ?_
  repeat (go_big_quiet_step ((exact E1.out _)))
  refine wpQuiet_nil ?_
  rintro _ ⟨⟨wa,hb⟩,rfl⟩
  replace FR:=zH (FR.out.fut hb)
  replace BA:=zH (BA.out.fut hb)
  replace BN:=zH (BN.out.fut hb)
  replace BR:=zH (BR.out.fut hb)
  clear hb
  clear x0 x1 x2 x3 tt1 tt2 E1
  go_wp2_with (first|(refine wpList_load_blk rfl 42 (.tmp 20) rfl w1.heap.size 11 rfl _ (nN d.kind d.a d.b d.k d.s d.p d.out d.za d.zb W nw cw B nb cb d.qm d.qs d.qz d.rm d.rs d.rz d.lo d.hi) #[.int .i32 d.qm,.int .i64 d.qs,.int .i8 d.qz] _ BN.out Tryz.underlying42 rfl (by kernel_rfl) rfl ?_)|(go_at_call 53;refine (QR.out _).mono ?_;rintro e wb ⟨rfl,hb⟩;replace FR:=zH (FR.out.fut hb);replace BA:=zH (BA.out.fut hb);replace BN:=zH (BN.out.fut hb);replace BR:=zH (BR.out.fut hb);clear hb)|(refine sB 27 (.tmp 4) (.tmp 24) w2.heap.size (tN 0 0 0 none 0 0) BR.out ?_;intro w9 B9 g9))
  refine rC B9 Tryz.underlying27 ?_
  exact RetT.none (FR.out.away g9 (by omega)).out
 | true =>
  rw [if_pos rfl] at HQ
  rw [HQ.out]
  go_enter Tryz.func39,Tryz.ntmps39
  go_wp2_with fail
  clear hw_w1 hw_w2 hw_w3 c3
  have x0:∀ q:Ext w3,q.1.cell? ⟨w.heap.size,0,none⟩=some (.int .i64 a.h):=fun q=>(BA.out.ext q).cell 0
  have x1:∀ q:Ext w3,q.1.cell? ⟨w.heap.size,1,none⟩=some (.int .i64 a.v):=fun q=>(BA.out.ext q).cell 1
  have x2:∀ q:Ext w3,q.1.cell? ⟨w.heap.size,2,none⟩=some (.int .i64 a.c):=fun q=>(BA.out.ext q).cell 2
  have x3:∀ q:Ext w3,q.1.cell? ⟨w.heap.size,3,none⟩=some (.slice A n cap):=fun q=>(BA.out.ext q).cell 3
  have E1:=zH (fun q:Ext w3=>calls_ext q (EL.out q.1))
  have tt1:decide ((n:Int)=0)=false:=by simp;omega
  have tt2:((n:Int) == 0)=false:=by simp;omega
  refine wp_region_ext w3 (by kernel_rfl) (by kernel_rfl) (Below.refl _ _) ?_
  repeat (go_big_quiet_step ((exact E1.out _)))
  refine wpQuiet_nil ?_
  rintro _ ⟨⟨wa,hb⟩,rfl⟩
  replace FR:=zH (FR.out.fut hb)
  replace BA:=zH (BA.out.fut hb)
  replace BN:=zH (BN.out.fut hb)
  replace BR:=zH (BR.out.fut hb)
  clear hb
  clear x0 x1 x2 x3 tt1 tt2 E1
  go_wp2_with (first|(refine wpList_load_blk rfl 42 (.tmp 20) rfl w1.heap.size 11 rfl _ (nN d.kind d.a d.b d.k d.s d.p d.out d.za d.zb W nw cw B nb cb d.qm d.qs d.qz d.rm d.rs d.rz d.lo d.hi) #[.int .i32 d.qm,.int .i64 d.qs,.int .i8 d.qz] _ BN.out Tryz.underlying42 rfl (by kernel_rfl) rfl ?_)|(go_at_call 53;refine (QR.out _).mono ?_;rintro e wb ⟨rfl,hb⟩;replace FR:=zH (FR.out.fut hb);replace BA:=zH (BA.out.fut hb);replace BN:=zH (BN.out.fut hb);replace BR:=zH (BR.out.fut hb);clear hb))
  have fd:Below w.heap.size w wb.drew:=FR.out.out.drew
  refine wp_region_T (fun w'=>w'.cell? ⟨w.heap.size,3,none⟩=some (.slice A n cap)∧w'.cell? ⟨w1.heap.size,17,none⟩=some (.int .i8 d.lo)∧w'.cell? ⟨w1.heap.size,18,none⟩=some (.int .i8 d.hi)∧Blk w' w.heap.size 78 (tN a.h a.v a.c A n cap)∧Blk w' w1.heap.size 44 (nN d.kind d.a d.b d.k d.s d.p d.out d.za d.zb W nw cw B nb cb d.qm d.qs d.qz d.rm d.rs d.rz d.lo d.hi)∧Below wb.drew.heap.size wb.drew w') 12 (by kernel_rfl) ?_ (fun hS=>?_)
  ·exact ⟨BA.out.drew.cell 3,BN.out.drew.cell 17,BN.out.drew.cell 18,BA.out.drew,BN.out.drew,Below.refl _ _⟩
  refine kT 0 rfl hS ?_
  try simp only [pX]
  refine tkT 1 rfl (yieldsIf_load_blk (by rfl) 24 (.tmp 25) rfl w.heap.size 0 rfl _ (tN a.h a.v a.c A n cap) (sN a.h a.v a.c) _ (fun w hs=>hs.2.2.2.1) Tryz.underlying24 rfl (by kernel_rfl) rfl) hS ?_
  try simp only [pX]
  refine kT 2 rfl hS ?_
  try simp only [pX]
  refine kT 3 rfl hS ?_
  try simp only [pX]
  refine kT 4 rfl hS ?_
  try simp only [pX]
  refine tkT 5 rfl (yieldsIf_load_blk (by rfl) 42 (.tmp 29) rfl w1.heap.size 11 rfl _ (nN d.kind d.a d.b d.k d.s d.p d.out d.za d.zb W nw cw B nb cb d.qm d.qs d.qz d.rm d.rs d.rz d.lo d.hi) #[.int .i32 d.qm,.int .i64 d.qs,.int .i8 d.qz] _ (fun w hs=>hs.2.2.2.2.1) Tryz.underlying42 rfl (by kernel_rfl) rfl) hS ?_
  try simp only [pX]
  refine kT 6 rfl hS ?_
  try simp only [pX]
  refine kT 7 rfl hS ?_
  try simp only [pX]
  refine kT 8 rfl hS ?_
  try simp only [pX]
  refine kT 9 rfl hS ?_
  try simp only [pX]
  refine wpAnyT_one (i:=10) (by kernel_rfl) rfl rfl (fun K hK=>?_)
  go_simp
  refine (rfixAll_any A n cap a.data d.qm d.qs d.qz d.lo d.hi _ ((Old.now HA.out).fut fd).all (by omega) HD.out.qm HD.out.qz HD.out.lo HD.out.hi QQ.out).mono ?_;rintro e wm ⟨RA,rn,rc,rfl,rs,hb⟩
  refine hK.out _ _ ?_ (fun hS=>?_)
  ·exact ⟨(by first|exact cell_later hb hS.1|exact Blk.later hS.1 hb),(by first|exact cell_later hb hS.2.1|exact Blk.later hS.2.1 hb),(by first|exact cell_later hb hS.2.2.1|exact Blk.later hS.2.2.1 hb),(by first|exact cell_later hb hS.2.2.2.1|exact Blk.later hS.2.2.2.1 hb),(by first|exact cell_later hb hS.2.2.2.2.1|exact Blk.later hS.2.2.2.2.1 hb),(by first|exact below_later hb hS.2.2.2.2.2|exact grown_below hS.2.2.2.2.2 hb)⟩
  clear hK K
  try simp only [pX]
  refine kT 11 rfl hS ?_
  try simp only [pX]
  refine wpAnyT_tail _ _ rfl rfl (by kernel_rfl) ?_
  have kd:=(show Below wb.heap.size wb wb.drew from (Below.refl _ _).drew).trans hb
  have RS:=zH (show New wb (tInt .i8) wm RA rn rc (allQ a.data d.qm d.qs d.qz d.lo d.hi) from ⟨rs⟩)
  have BR5:=zH (BR.out.fut kd)
  replace FR:=zH (FR.out.fut kd)
  have lbr:=BR.out.lt
  clear hS hb rs kd
  go_wp2_with (refine sB 27 (.tmp 4) (.tmp 36) w2.heap.size (tN a.h a.v a.c RA rn rc) BR5.out ?_;intro w9 B9 g9)
  refine rC B9 Tryz.underlying27 ?_
  exact ⟨RA,rn,rc,rfl,(RS.out.away g9 lbr).out.more (bin_more (by omega) (Nat.le_refl _)),(FR.out.away g9 (by omega)).out⟩
end Go.Proofs.YtjkmjpjknmghlaaGreat
