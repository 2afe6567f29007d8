/-
  The shape that a node makes (layers 18, 25): kinds.around.
  Which values a node takes (layer 27): takes, there, of; the document's There, second.
  Two numbers joined (layer 20): join.may, join.scaled, join.One, the document's One.
-/
import Derived.Test.YtppcjcigekoipaaGreatJ17
set_option linter.unusedVariables false
set_option linter.unusedSimpArgs false
namespace Go.Proofs.YtppcjcigekoipaaGreat
open Go.RowKit Go.ChangeShapes Go.WideShapes
set_option maxRecDepth 100000
set_option maxHeartbeats 8000000 in
theorem karound_any (h v c p:Int) (w:World) (hb:1≤h∧h≤16∧1≤v∧v≤16∧1≤c∧c≤1024) (hp:InK .i64 p) :
  Calls Tryz.prog 171 #[.agg (sN h v c),.int .i64 p] w fun e w'=>e=retS (aroundV h v c p)∧Below w.heap.size w w':=by
 obtain ⟨r,hr⟩:∃ r,aroundV h v c p=r:=⟨_,rfl⟩
 rw [hr]
 unfold aroundV at hr
 have VV:=zH hr.symm
 clear hr hp
 have FR:=zH (Far.refl w)
 obtain ⟨w1,hw_w1,BA,k_w1⟩:=nB w (sN h v c) 23
 replace FR:=zH (FR.out.fut k_w1)
 clear k_w1
 obtain ⟨w2,hw_w2,BR,k_w2⟩:=nB w1 (sN 0 0 0) 23
 replace FR:=zH (FR.out.fut k_w2)
 replace BA:=zH (BA.out.fut k_w2)
 clear k_w2
 have l1:w.heap.size < w1.heap.size:=by rw [← hw_w1];simp
 have l2:w1.heap.size < w2.heap.size:=by rw [← hw_w2];simp
 by_cases c1:p < 0
 ·have t1:decide (p < 0)=true:=decide_eq_true c1
  have R:=zH (show r=noS 2 by rw [VV.out,if_pos (.inl c1)])
  clear c1 VV hb
  go_enter Tryz.func171,Tryz.ntmps171
  go_wp2_with (first
   | (refine sB 23 (.tmp 4) (.tmp 13) w1.heap.size (sN 0 0 0) BR.out ?_;intro w7 BR7 g7))
  refine rC BR7 Tryz.underlying23 ?_;exact ⟨by rw [R.out];rfl,(FR.out.away g7 (by omega)).out⟩
 have t1:decide (p < 0)=false:=decide_eq_false c1
 have p1:0≤p:=by omega
 clear c1
 by_cases c1:4 < p
 ·have t2:decide (4 < p)=true:=decide_eq_true c1
  have R:=zH (show r=noS 2 by rw [VV.out,if_pos (.inr c1)])
  clear c1 VV hb
  go_enter Tryz.func171,Tryz.ntmps171
  go_wp2_with (first
   | (refine sB 23 (.tmp 4) (.tmp 13) w1.heap.size (sN 0 0 0) BR.out ?_;intro w7 BR7 g7))
  refine rC BR7 Tryz.underlying23 ?_;exact ⟨by rw [R.out];rfl,(FR.out.away g7 (by omega)).out⟩
 have t2:decide (4 < p)=false:=decide_eq_false c1
 have p2:p≤4:=by omega
 clear c1
 have R1:=zH (fun w=>shapeRight_any (h+2*p) c (v+2*p) w (by rw [inK_i64];omega) (by rw [inK_i64];omega) (by rw [inK_i64];omega))
 have e1:IntKind.i64.wrap (2*p)=2*p:=IntWalk.i64_in _ (by omega)
 have e2:IntKind.i64.wrap (h+2*p)=h+2*p:=IntWalk.i64_in _ (by omega)
 have e3:IntKind.i64.wrap (v+2*p)=v+2*p:=IntWalk.i64_in _ (by omega)
 have m0:=(elems_range (h+2*p) (v+2*p) c).1
 have V2:=zH (show r=(if elems (h+2*p) (v+2*p) c=0 then noS 5 else ((h+2*p,v+2*p,c),0)) by rw [VV.out,if_neg (by omega)])
 obtain ⟨m,hm⟩:∃ m,elems (h+2*p) (v+2*p) c=m:=⟨_,rfl⟩
 rw [hm] at V2 R1 m0
 clear VV hm hb p1 p2
 have a0:=BA.out.cell 0
 have a1:=BA.out.cell 1
 have a2:=BA.out.cell 2
 obtain ⟨w3,hw_w3,BT,k_w3⟩:=nB w2 (sN 0 0 0) 23
 replace FR:=zH (FR.out.fut k_w3)
 replace BA:=zH (BA.out.fut k_w3)
 replace BR:=zH (BR.out.fut k_w3)
 clear k_w3
 by_cases c3:m=0
 ·have t3:decide (0 < m)=false:=by simp;omega
  have R:=zH (show r=noS 5 by rw [V2.out,if_pos c3])
  clear V2 c3 m0
  go_enter Tryz.func171,Tryz.ntmps171
  go_wp2_with (first
   | (refine wpList_store_all rfl 23 (.tmp 6) (.tmp 26) rfl w2.heap.size (sN (h+2*p) (v+2*p) c) rfl rfl _ _ BT.out rfl (by kernel_rfl) (by simp [Value.oneCell']) ?_;intro w6 BT6 g6;have BR6:=zH (BR.out.away g6 (by omega));have FR6:=zH (FR.out.away g6 (by omega)))
   | (refine lB 23 (.tmp 6) w2.heap.size BT6 Tryz.underlying23 ?_))
  clear hw_w1 hw_w2 hw_w3 a0 a1 a2
  refine (R1.out _).mono ?_
  rintro e w5 ⟨rfl,hb⟩
  have BT5:=zH (BT6.fut hb)
  replace BR6:=zH (BR6.out.fut hb)
  replace FR6:=zH (FR6.out.fut hb)
  clear hb
  go_wp2_with (first
   | (refine sB 23 (.tmp 4) (.tmp 30) w1.heap.size (sN 0 0 0) BR6.out ?_;intro w7 BR7 g7))
  refine rC BR7 Tryz.underlying23 ?_;exact ⟨by rw [R.out];rfl,(FR6.out.away g7 (by omega)).out⟩
 have t3:decide (0 < m)=true:=by simp;omega
 have R:=zH (show r=((h+2*p,v+2*p,c),0) by rw [V2.out,if_neg c3])
 clear V2 c3 m0
 go_enter Tryz.func171,Tryz.ntmps171
 go_wp2_with (first
  | (refine wpList_store_all rfl 23 (.tmp 6) (.tmp 26) rfl w2.heap.size (sN (h+2*p) (v+2*p) c) rfl rfl _ _ BT.out rfl (by kernel_rfl) (by simp [Value.oneCell']) ?_;intro w6 BT6 g6;have BR6:=zH (BR.out.away g6 (by omega));have FR6:=zH (FR.out.away g6 (by omega)))
  | (refine lB 23 (.tmp 6) w2.heap.size BT6 Tryz.underlying23 ?_))
 clear hw_w1 hw_w2 hw_w3 a0 a1 a2
 refine (R1.out _).mono ?_
 rintro e w5 ⟨rfl,hb⟩
 have BT5:=zH (BT6.fut hb)
 replace BR6:=zH (BR6.out.fut hb)
 replace FR6:=zH (FR6.out.fut hb)
 clear hb
 go_wp2_with (first
  | (refine lB 23 (.tmp 6) w2.heap.size BT5.out Tryz.underlying23 ?_)
  | (refine wpList_store_all rfl 23 (.tmp 4) (.tmp 31) rfl w1.heap.size (sN (h+2*p) (v+2*p) c) rfl rfl _ _ BR6.out rfl (by kernel_rfl) (by simp [Value.oneCell']) ?_;intro w7 BR7 g7))
 refine rC BR7 Tryz.underlying23 ?_;exact ⟨by rw [R.out];rfl,(FR6.out.away g7 (by omega)).out⟩
set_option maxHeartbeats 4000000
def takesV (d:Node):List Int:=if d.kind=6 then [d.a,d.b] else [d.a]
def secondV (d:Node):Int:=if d.kind=6 then d.b else d.a
def thereV (d:Node) (many:Int):Bool:=decide (0≤d.a∧d.a < many) && (decide (d.kind ≠ 6) || decide (0≤d.b∧d.b < many))
theorem takes_any (d:Node) (W:Option Addr) (nw cw:Nat) (B:Option Addr) (nb cb:Nat) (w:World) (ha:InK .i64 d.a) (hb:InK .i64 d.b) :
  Calls Tryz.prog 143 #[.agg (nN d.kind d.a d.b d.k d.s d.p d.out d.za d.zb W nw cw B nb cb d.qm d.qs d.qz d.rm d.rs d.rz d.lo d.hi)] w (RetSl (tInt .i64) w (takesV d)):=by
 have FR:=zH (Far.refl w)
 obtain ⟨w1,hw_w1,BN,k_w1⟩:=nB w (nN d.kind d.a d.b d.k d.s d.p d.out d.za d.zb W nw cw B nb cb d.qm d.qs d.qz d.rm d.rs d.rz d.lo d.hi) 87
 replace FR:=zH (FR.out.fut k_w1)
 clear k_w1
 have c0:=BN.out.cell 0
 have c1:=BN.out.cell 1
 have c2:=BN.out.cell 2
 have l1:w.heap.size≤w1.heap.size:=by rw [← hw_w1];simp
 have HA:=zH ha
 have HB:=zH hb
 clear ha hb
 unfold takesV
 by_cases k6:d.kind=6
 ·have t6:(d.kind == 6)=true:=by simpa using k6
  rw [if_pos k6]
  clear k6
  go_enter Tryz.func143,Tryz.ntmps143
  go_wp2_with fail
  go_ret
  refine ⟨some ⟨w1.heap.size,0,none⟩,2,2,rfl,Sl.lit [d.a,d.b] (heap_now _ _ _ rfl) rfl (by intro x hx;simp at hx;rcases hx with rfl|rfl;exact HA.out;exact HB.out) ⟨l1,by simp⟩ rfl rfl (by simp [maxLen]),FR.out.out.alloc l1 _⟩
 ·have t6:(d.kind == 6)=false:=by simpa using k6
  rw [if_neg k6]
  clear k6
  go_enter Tryz.func143,Tryz.ntmps143
  go_wp2_with fail
  go_ret
  refine ⟨some ⟨w1.heap.size,0,none⟩,1,1,rfl,Sl.lit [d.a] (heap_now _ _ _ rfl) rfl (by intro x hx;simp at hx;subst hx;exact HA.out) ⟨l1,by simp⟩ rfl rfl (by simp [maxLen]),FR.out.out.alloc l1 _⟩
theorem of_any (d:Node) (W:Option Addr) (nw cw:Nat) (B:Option Addr) (nb cb:Nat) (w:World) (ha:InK .i64 d.a) (hb:InK .i64 d.b) :
  Calls Tryz.prog 108 #[.agg (nN d.kind d.a d.b d.k d.s d.p d.out d.za d.zb W nw cw B nb cb d.qm d.qs d.qz d.rm d.rs d.rz d.lo d.hi)] w fun e w'=>e=.returned (.int .i64 (secondV d))∧Below w.heap.size w w':=by
 obtain ⟨r,hr⟩:∃ r,secondV d=r:=⟨_,rfl⟩
 rw [hr]
 have TK:=zH (fun w=>takes_any d W nw cw B nb cb w ha hb)
 have FR:=zH (Far.refl w)
 obtain ⟨w1,hw_w1,BN,k_w1⟩:=nB w (nN d.kind d.a d.b d.k d.s d.p d.out d.za d.zb W nw cw B nb cb d.qm d.qs d.qz d.rm d.rs d.rz d.lo d.hi) 87
 replace FR:=zH (FR.out.fut k_w1)
 clear k_w1
 unfold takesV at TK
 unfold secondV at hr
 by_cases k6:d.kind=6
 ·rw [if_pos k6] at TK hr
  have R:=zH hr
  clear k6 hr ha hb
  go_enter Tryz.func108,Tryz.ntmps108
  go_wp2_with (refine lB 87 (.tmp 1) w.heap.size BN.out Tryz.underlying87 ?_)
  refine (TK.out _).mono ?_
  rintro e w2 ⟨A,n,cap,rfl,hs,hb⟩
  obtain rfl:n=2:=hs.n_eq.symm
  obtain ⟨b,off,rfl,_,_,c1,_⟩:=hs.int_at 1 (by decide)
  rw [show [d.a,d.b].getD 1 0=d.b from rfl] at c1
  replace FR:=zH (FR.out.fut hb)
  clear hb
  clear hs hw_w1
  go_wp2_with fail
  go_ret
  exact ⟨by rw [← R.out];rfl,FR.out.out⟩
 ·rw [if_neg k6] at TK hr
  have R:=zH hr
  clear k6 hr ha hb
  go_enter Tryz.func108,Tryz.ntmps108
  go_wp2_with (refine lB 87 (.tmp 1) w.heap.size BN.out Tryz.underlying87 ?_)
  refine (TK.out _).mono ?_
  rintro e w2 ⟨A,n,cap,rfl,hs,hb⟩
  obtain rfl:n=1:=hs.n_eq.symm
  obtain ⟨b,off,rfl,_,_,c1,_⟩:=hs.int_at 0 (by decide)
  rw [show [d.a].getD 0 0=d.a from rfl,Nat.add_zero] at c1
  replace FR:=zH (FR.out.fut hb)
  clear hb
  clear hs hw_w1
  go_wp2_with fail
  go_ret
  exact ⟨by rw [← R.out];rfl,FR.out.out⟩
theorem there_any (d:Node) (W:Option Addr) (nw cw:Nat) (B:Option Addr) (nb cb:Nat) (many:Int) (w:World) (ha:InK .i64 d.a) (hb:InK .i64 d.b) :
  Calls Tryz.prog 106 #[.agg (nN d.kind d.a d.b d.k d.s d.p d.out d.za d.zb W nw cw B nb cb d.qm d.qs d.qz d.rm d.rs d.rz d.lo d.hi),.int .i64 many] w fun e w'=>e=.returned (.bool (thereV d many))∧Below w.heap.size w w':=by
 obtain ⟨r,hr⟩:∃ r,thereV d many=r:=⟨_,rfl⟩
 rw [hr]
 have TK:=zH (fun w=>takes_any d W nw cw B nb cb w ha hb)
 have FR:=zH (Far.refl w)
 obtain ⟨w1,hw_w1,BN,k_w1⟩:=nB w (nN d.kind d.a d.b d.k d.s d.p d.out d.za d.zb W nw cw B nb cb d.qm d.qs d.qz d.rm d.rs d.rz d.lo d.hi) 87
 replace FR:=zH (FR.out.fut k_w1)
 clear k_w1
 obtain ⟨l,hl⟩:∃ l,takesV d=l:=⟨_,rfl⟩
 rw [hl] at TK
 have R:=zH (show (r=true ↔ ∀ j,j < l.length → 0≤l.getD j 0∧l.getD j 0 < many)∧l.length≤2 by
  rw [← hr,← hl]
  unfold thereV takesV
  by_cases k6:d.kind=6
  ·rw [if_pos k6]
   refine ⟨?_,by simp⟩
   simp only [k6,Bool.and_eq_true,Bool.or_eq_true,decide_eq_true_eq,ne_eq,not_true_eq_false,false_or]
   constructor
   ·intro h j hj
    match j,hj with
    | 0,_=>exact h.1
    | 1,_=>exact h.2
   ·intro h;exact ⟨h 0 (by simp),h 1 (by simp)⟩
  ·rw [if_neg k6]
   refine ⟨?_,by simp⟩
   simp only [k6,Bool.and_eq_true,Bool.or_eq_true,decide_eq_true_eq,ne_eq,not_false_eq_true,true_or,and_true]
   constructor
   ·intro h j hj
    match j,hj with
    | 0,_=>exact h
   ·intro h;exact h 0 (by simp))
 clear hl hr ha hb
 go_enter Tryz.func106,Tryz.ntmps106
 go_wp2_with (refine lB 87 (.tmp 2) w.heap.size BN.out Tryz.underlying87 ?_)
 refine (TK.out _).mono ?_
 rintro e w2 ⟨A,n,cap,rfl,hs,hb⟩
 have hn:=hs.n_eq
 have HS:=zH hs
 have hn2:=R.out.2
 rw [hn] at hn2
 replace FR:=zH (FR.out.fut hb)
 clear hb
 have HN:=zH hn
 clear hs hw_w1 TK hn
 go_wp2_with fail
 go_loopw [10] (fun i wr=>∃ k:Nat,k≤n∧i=.int .i64 k∧Below w2.heap.size w2 wr∧∀ j,j < k → 0≤l.getD j 0∧l.getD j 0 < many) (fun i _=>n - (intOf i).toNat)
 case atStart=>exact ⟨0,Nat.zero_le _,rfl,Below.refl _ _,fun j hj=>absurd hj (Nat.not_lt_zero _)⟩
 case round =>
  obtain ⟨k,hk,rfl,hb,hq⟩:=hrel
  have HQ:=zH hq
  have HB:=zH hb
  clear hq hb
  by_cases hlt:k < n
  ·obtain ⟨b,off,rfl,_,_,c0,_⟩:=(HS.out.below HB.out (fun _ h=>h.2)).int_at k hlt
   have p1:(k:Int) < (n:Int):=by omega
   obtain ⟨x,hx⟩:∃ x,l.getD k 0=x:=⟨_,rfl⟩
   rw [hx] at c0
   have HX:=zH hx
   clear hx
   by_cases g:0≤x∧x < many
   ·have g1:decide (x < 0)=false:=by simp;omega
    have g2:decide (many≤x)=false:=by simp;omega
    have G:=zH g
    clear g
    go_wp2_with fail
    refine ⟨⟨k+1,by omega,by go_num,HB.out,fun j hj=>?_⟩,by simp [intOf];omega⟩
    by_cases hjk:j < k
    ·exact HQ.out j hjk
    ·obtain rfl:j=k:=by omega
     rw [HX.out];exact G.out
   ·have RF:r=false:=by
     cases hr:r with
     | false=>rfl
     | true =>
      have h:=R.out.1.1 hr k (by rw [HN.out];exact hlt)
      rw [HX.out] at h
      exact absurd h g
    have RF':=zH RF
    clear RF
    by_cases g1:x < 0
    ·have t1:decide (x < 0)=true:=decide_eq_true g1
     clear g g1
     go_wp2_with fail
     go_ret
     exact ⟨by rw [RF'.out];rfl,below_later HB.out FR.out.out⟩
    ·have t1:decide (x < 0)=false:=decide_eq_false g1
     have t2:decide (many≤x)=true:=by simp;omega
     clear g g1
     go_wp2_with fail
     go_ret
     exact ⟨by rw [RF'.out];rfl,below_later HB.out FR.out.out⟩
  ·obtain rfl:k=n:=by omega
   have RT:=zH (R.out.1.2 (by rw [HN.out];exact HQ.out))
   clear hlt hk
   go_wp2_with fail
   go_ret
   exact ⟨by rw [RT.out];rfl,below_later HB.out FR.out.out⟩
theorem second_any (d:Node) (W:Option Addr) (nw cw:Nat) (B:Option Addr) (nb cb:Nat) (w:World) :
  Calls Tryz.prog 52 #[.agg (nN d.kind d.a d.b d.k d.s d.p d.out d.za d.zb W nw cw B nb cb d.qm d.qs d.qz d.rm d.rs d.rz d.lo d.hi)] w fun e w'=>e=.returned (.int .i64 (secondV d))∧Below w.heap.size w w':=by
 obtain ⟨r,hr⟩:∃ r,secondV d=r:=⟨_,rfl⟩
 rw [hr]
 unfold secondV at hr
 have FR:=zH (Far.refl w)
 obtain ⟨w1,hw_w1,BN,k_w1⟩:=nB w (nN d.kind d.a d.b d.k d.s d.p d.out d.za d.zb W nw cw B nb cb d.qm d.qs d.qz d.rm d.rs d.rz d.lo d.hi) 87
 replace FR:=zH (FR.out.fut k_w1)
 clear k_w1
 have c0:=BN.out.cell 0
 have c1:=BN.out.cell 1
 have c2:=BN.out.cell 2
 by_cases k6:d.kind=6
 ·have t6:(d.kind == 6)=true:=by simpa using k6
  rw [if_pos k6] at hr
  have R:=zH hr
  clear k6 hr
  go_enter Tryz.func52,Tryz.ntmps52
  go_wp2_with fail
  go_ret
  exact ⟨by rw [← R.out];rfl,FR.out.out⟩
 ·have t6:(d.kind == 6)=false:=by simpa using k6
  rw [if_neg k6] at hr
  have R:=zH hr
  clear k6 hr
  go_enter Tryz.func52,Tryz.ntmps52
  go_wp2_with fail
  go_ret
  exact ⟨by rw [← R.out];rfl,FR.out.out⟩
theorem rthere_any (d:Node) (W:Option Addr) (nw cw:Nat) (B:Option Addr) (nb cb:Nat) (many:Int) (w:World) :
  Calls Tryz.prog 50 #[.agg (nN d.kind d.a d.b d.k d.s d.p d.out d.za d.zb W nw cw B nb cb d.qm d.qs d.qz d.rm d.rs d.rz d.lo d.hi),.int .i64 many] w fun e w'=>e=.returned (.bool (thereV d many))∧Below w.heap.size w w':=by
 obtain ⟨r,hr⟩:∃ r,thereV d many=r:=⟨_,rfl⟩
 rw [hr]
 unfold thereV at hr
 have FR:=zH (Far.refl w)
 obtain ⟨w1,hw_w1,BN,k_w1⟩:=nB w (nN d.kind d.a d.b d.k d.s d.p d.out d.za d.zb W nw cw B nb cb d.qm d.qs d.qz d.rm d.rs d.rz d.lo d.hi) 87
 replace FR:=zH (FR.out.fut k_w1)
 clear k_w1
 have c0:=BN.out.cell 0
 have c1:=BN.out.cell 1
 have c2:=BN.out.cell 2
 by_cases h1:0≤d.a
 rotate_left
 ·have t1:decide (0≤d.a)=false:=decide_eq_false h1
  have R:=zH (show r=false by rw [← hr];simp;omega)
  clear hr h1
  go_enter Tryz.func50,Tryz.ntmps50
  go_wp2_with fail
  go_ret
  exact ⟨by rw [R.out];rfl,FR.out.out⟩
 have t1:decide (0≤d.a)=true:=decide_eq_true h1
 by_cases h2:d.a < many
 rotate_left
 ·have t2:decide (d.a < many)=false:=decide_eq_false h2
  have R:=zH (show r=false by rw [← hr];simp;omega)
  clear hr h1 h2
  go_enter Tryz.func50,Tryz.ntmps50
  go_wp2_with fail
  go_ret
  exact ⟨by rw [R.out];rfl,FR.out.out⟩
 have t2:decide (d.a < many)=true:=decide_eq_true h2
 by_cases h3:d.kind=6
 rotate_left
 ·have t3:(d.kind != 6)=true:=by simpa using h3
  have R:=zH (show r=true by rw [← hr];simp [h3];omega)
  clear hr h1 h2 h3
  go_enter Tryz.func50,Tryz.ntmps50
  go_wp2_with fail
  go_ret
  exact ⟨by rw [R.out];rfl,FR.out.out⟩
 have t3:(d.kind != 6)=false:=by simpa using h3
 by_cases h4:0≤d.b
 rotate_left
 ·have t4:decide (0≤d.b)=false:=decide_eq_false h4
  have R:=zH (show r=false by rw [← hr];simp [h3];omega)
  clear hr h1 h2 h3 h4
  go_enter Tryz.func50,Tryz.ntmps50
  go_wp2_with fail
  go_ret
  exact ⟨by rw [R.out];rfl,FR.out.out⟩
 have t4:decide (0≤d.b)=true:=decide_eq_true h4
 by_cases h5:d.b < many
 ·have t5:decide (d.b < many)=true:=decide_eq_true h5
  have R:=zH (show r=true by rw [← hr];simp [h3];omega)
  clear hr h1 h2 h3 h4 h5
  go_enter Tryz.func50,Tryz.ntmps50
  go_wp2_with fail
  go_ret
  exact ⟨by rw [R.out];rfl,FR.out.out⟩
 ·have t5:decide (d.b < many)=false:=decide_eq_false h5
  have R:=zH (show r=false by rw [← hr];simp [h3];omega)
  clear hr h1 h2 h3 h4 h5
  go_enter Tryz.func50,Tryz.ntmps50
  go_wp2_with fail
  go_ret
  exact ⟨by rw [R.out];rfl,FR.out.out⟩
end Go.Proofs.YtppcjcigekoipaaGreat
namespace Go.Proofs.YtppcjcigekoipaaGreat
open Go.RowKit Go.ChangeShapes Go.WideShapes Fx
set_option maxRecDepth 100000
set_option maxHeartbeats 4000000
def joinV (d:Node) (x y:Int):Int:=w8 (heldV (roundV ((x - d.za)*d.qm) d.qs+roundV ((y - d.zb)*d.rm) d.rs+d.qz) d.lo d.hi)
theorem joinV_in (d:Node) (x y:Int):InK .i8 (joinV d x y):=w8_in _
def mayV (d:Node):Bool:=quantOk d.qm d.qs && quantOk d.rm d.rs
theorem prod8 {a b m:Int} (ha:InK .i8 a) (hb:InK .i8 b) (hm:InK .i32 m):((a - b)*m).natAbs≤547608330240:=by
 rw [inK_i8] at ha hb
 rw [inK_i32] at hm
 exact Nat.le_trans (natAbs_mul_le (m:=255) (n:=2147483648) (by omega) (by omega)) (by decide)
theorem joinMay_any (d:Node) (W:Option Addr) (nw cw:Nat) (B:Option Addr) (nb cb:Nat) (w:World) :
  Calls Tryz.prog 201 #[.agg (nN d.kind d.a d.b d.k d.s d.p d.out d.za d.zb W nw cw B nb cb d.qm d.qs d.qz d.rm d.rs d.rz d.lo d.hi)] w fun e w'=>e=.returned (.bool (mayV d))∧Below w.heap.size w w':=by
 have Q1:=zH (fun w=>fixRight_any d.qm d.qs d.qz w)
 have Q2:=zH (fun w=>fixRight_any d.rm d.rs d.rz w)
 have FR:=zH (Far.refl w)
 obtain ⟨w1,hw_w1,BN,k_w1⟩:=nB w (nN d.kind d.a d.b d.k d.s d.p d.out d.za d.zb W nw cw B nb cb d.qm d.qs d.qz d.rm d.rs d.rz d.lo d.hi) 87
 replace FR:=zH (FR.out.fut k_w1)
 clear k_w1
 unfold mayV
 obtain ⟨q,hq⟩:∃ q,quantOk d.qm d.qs=q:=⟨_,rfl⟩
 obtain ⟨r,hr⟩:∃ r,quantOk d.rm d.rs=r:=⟨_,rfl⟩
 rw [hq] at Q1 ⊢
 rw [hr] at Q2 ⊢
 clear hq hr
 cases q with
 | false =>
  go_enter Tryz.func201,Tryz.ntmps201
  go_wp2_with (first|(refine wpList_load_blk rfl 85 (.tmp 3) rfl w.heap.size 11 rfl _ (nN d.kind d.a d.b d.k d.s d.p d.out d.za d.zb W nw cw B nb cb d.qm d.qs d.qz d.rm d.rs d.rz d.lo d.hi) #[.int .i32 d.qm,.int .i64 d.qs,.int .i8 d.qz] _ BN.out Tryz.underlying85 rfl (by kernel_rfl) rfl ?_)|(go_at_call 142;refine (Q1.out _).mono ?_;rintro e w2 ⟨rfl,hb⟩))
  go_ret
  exact ⟨rfl,(FR.out.fut hb).out⟩
 | true =>
  go_enter Tryz.func201,Tryz.ntmps201
  go_wp2_with (first|(refine wpList_load_blk rfl 85 (.tmp 3) rfl w.heap.size 11 rfl _ (nN d.kind d.a d.b d.k d.s d.p d.out d.za d.zb W nw cw B nb cb d.qm d.qs d.qz d.rm d.rs d.rz d.lo d.hi) #[.int .i32 d.qm,.int .i64 d.qs,.int .i8 d.qz] _ BN.out Tryz.underlying85 rfl (by kernel_rfl) rfl ?_)|(refine wpList_load_blk rfl 85 (.tmp 7) rfl w.heap.size 14 rfl _ (nN d.kind d.a d.b d.k d.s d.p d.out d.za d.zb W nw cw B nb cb d.qm d.qs d.qz d.rm d.rs d.rz d.lo d.hi) #[.int .i32 d.rm,.int .i64 d.rs,.int .i8 d.rz] _ BN.out Tryz.underlying85 rfl (by kernel_rfl) rfl ?_)|(go_at_call 142;first|(with_reducible refine (Q1.out _).mono ?_;rintro e w2 ⟨rfl,hb⟩;replace FR:=zH (FR.out.fut hb);replace BN:=zH (BN.out.fut hb);clear hb hw_w1;have c14:=BN.out.cell 14;have c15:=BN.out.cell 15;have c16:=BN.out.cell 16;simp only [gX] at c14 c15 c16)|(with_reducible refine (Q2.out _).mono ?_;rintro e w3 ⟨rfl,hb⟩)))
  go_ret
  exact ⟨by cases r <;> rfl,(FR.out.fut hb).out⟩
theorem joinScaled_any (x zz m s z:Int) (w:World) (hx:InK .i8 x) (hz:InK .i8 zz) (hm:InK .i32 m) :
  Calls Tryz.prog 203 #[.int .i8 x,.int .i8 zz,.agg #[.int .i32 m,.int .i64 s,.int .i8 z]] w fun e w'=>e=.returned (.int .i64 (roundV ((x - zz)*m) s))∧Below w.heap.size w w':=by
 rw [inK_i8] at hx hz
 obtain ⟨x1,x2⟩:=hx
 obtain ⟨z1,z2⟩:=hz
 have SC:=zH (fun w=>scale_any (x - zz) m s w (by rw [inK_i32];omega) hm)
 have FR:=zH (Far.refl w)
 obtain ⟨w1,hw_w1,BQ,k_w1⟩:=nB w #[.int .i32 m,.int .i64 s,.int .i8 z] 85
 replace FR:=zH (FR.out.fut k_w1)
 clear k_w1
 have d0:=BQ.out.cell 0
 have d1:=BQ.out.cell 1
 clear hm
 go_enter Tryz.func203,Tryz.ntmps203
 go_wp2_with (go_at_call 226;refine (SC.out _).mono ?_;rintro e w2 ⟨rfl,hb⟩)
 go_ret
 exact ⟨rfl,(FR.out.fut hb).out⟩
theorem joinOne_any (x y:Int) (d:Node) (W:Option Addr) (nw cw:Nat) (B:Option Addr) (nb cb:Nat) (w:World) (hx:InK .i8 x) (hy:InK .i8 y) (hd:NodeIn d) (hm:mayV d=true) :
  Calls Tryz.prog 182 #[.int .i8 x,.int .i8 y,.agg (nN d.kind d.a d.b d.k d.s d.p d.out d.za d.zb W nw cw B nb cb d.qm d.qs d.qz d.rm d.rs d.rz d.lo d.hi)] w fun e w'=>e=.returned (.int .i8 (joinV d x y))∧Below w.heap.size w w':=by
 have b1:=roundV_le _ d.qs _ (prod8 hx hd.za hd.qm)
 have b2:=roundV_le _ d.rs _ (prod8 hy hd.zb hd.rm)
 have MA:=zH (fun w=>joinMay_any d W nw cw B nb cb w)
 rw [hm] at MA
 have S1:=zH (fun w=>joinScaled_any x d.za d.qm d.qs d.qz w hx hd.za hd.qm)
 have S2:=zH (fun w=>joinScaled_any y d.zb d.rm d.rs d.rz w hy hd.zb hd.rm)
 unfold joinV
 obtain ⟨r1,h1⟩:∃ r,roundV ((x - d.za)*d.qm) d.qs=r:=⟨_,rfl⟩
 obtain ⟨r2,h2⟩:∃ r,roundV ((y - d.zb)*d.rm) d.rs=r:=⟨_,rfl⟩
 rw [h1] at S1 b1 ⊢
 rw [h2] at S2 b2 ⊢
 have hz:=hd.qz
 rw [inK_i8] at hz
 obtain ⟨z1,z2⟩:=hz
 have e1:IntKind.i64.wrap (r1+r2)=r1+r2:=IntWalk.i64_in _ (by omega)
 have e2:IntKind.i64.wrap d.qz=d.qz:=IntWalk.i64_in _ (by omega)
 have e3:IntKind.i64.wrap (r1+r2+d.qz)=r1+r2+d.qz:=IntWalk.i64_in _ (by omega)
 have CL:=zH (fun w=>clamp_any (r1+r2+d.qz) d.lo d.hi w hd.lo hd.hi)
 have FR:=zH (Far.refl w)
 obtain ⟨w1,hw_w1,BN,k_w1⟩:=nB w (nN d.kind d.a d.b d.k d.s d.p d.out d.za d.zb W nw cw B nb cb d.qm d.qs d.qz d.rm d.rs d.rz d.lo d.hi) 87
 replace FR:=zH (FR.out.fut k_w1)
 clear k_w1
 clear h1 h2 hm hx hy hd
 go_enter Tryz.func182,Tryz.ntmps182
 go_wp2_with (first|(refine lB 87 (.tmp 5) w.heap.size BN.out Tryz.underlying87 ?_)|(go_at_call 201;refine (MA.out _).mono ?_;rintro e w2 ⟨rfl,hb⟩;replace FR:=zH (FR.out.fut hb);replace BN:=zH (BN.out.fut hb);clear hb hw_w1))
 have c7:∀ q:Ext w2,q.1.cell? ⟨w.heap.size,7,none⟩=some (.int .i8 d.za):=fun q=>(BN.out.ext q).cell 7
 have c8:∀ q:Ext w2,q.1.cell? ⟨w.heap.size,8,none⟩=some (.int .i8 d.zb):=fun q=>(BN.out.ext q).cell 8
 have c11:∀ q:Ext w2,q.1.cell? ⟨w.heap.size,11,none⟩=some (.int .i32 d.qm):=fun q=>(BN.out.ext q).cell 11
 have c12:∀ q:Ext w2,q.1.cell? ⟨w.heap.size,12,none⟩=some (.int .i64 d.qs):=fun q=>(BN.out.ext q).cell 12
 have c13:∀ q:Ext w2,q.1.cell? ⟨w.heap.size,13,none⟩=some (.int .i8 d.qz):=fun q=>(BN.out.ext q).cell 13
 have c14:∀ q:Ext w2,q.1.cell? ⟨w.heap.size,14,none⟩=some (.int .i32 d.rm):=fun q=>(BN.out.ext q).cell 14
 have c15:∀ q:Ext w2,q.1.cell? ⟨w.heap.size,15,none⟩=some (.int .i64 d.rs):=fun q=>(BN.out.ext q).cell 15
 have c16:∀ q:Ext w2,q.1.cell? ⟨w.heap.size,16,none⟩=some (.int .i8 d.rz):=fun q=>(BN.out.ext q).cell 16
 have c17:∀ q:Ext w2,q.1.cell? ⟨w.heap.size,17,none⟩=some (.int .i8 d.lo):=fun q=>(BN.out.ext q).cell 17
 have c18:∀ q:Ext w2,q.1.cell? ⟨w.heap.size,18,none⟩=some (.int .i8 d.hi):=fun q=>(BN.out.ext q).cell 18
 have E1:=zH (fun q:Ext w2=>calls_ext q (S1.out q.1))
 have E2:=zH (fun q:Ext w2=>calls_ext q (S2.out q.1))
 have E3:=zH (fun q:Ext w2=>calls_ext q ((CL.out q.1).mono (fun e w' h=>⟨h.1,by rw [← h.2];exact Below.refl _ _⟩)))
 refine wp_region_ext w2 (by kernel_rfl) (by kernel_rfl) (Below.refl _ _) ?_
 repeat (go_big_quiet_step (first|(with_reducible exact E1.out _)|(with_reducible exact E2.out _)|(with_reducible exact E3.out _)))
 refine wpQuiet_nil ?_
 rintro _ ⟨⟨w3,hB⟩,rfl⟩
 go_wp2_with fail
 go_ret
 exact ⟨rfl,(FR.out.fut hB).out⟩
theorem rjoinOne_any (x y:Int) (d:Node) (W:Option Addr) (nw cw:Nat) (B:Option Addr) (nb cb:Nat) (w:World) (hx:InK .i8 x) (hy:InK .i8 y) (hd:NodeIn d) (hm:mayV d=true) :
  Calls Tryz.prog 110 #[.int .i8 x,.int .i8 y,.agg (nN d.kind d.a d.b d.k d.s d.p d.out d.za d.zb W nw cw B nb cb d.qm d.qs d.qz d.rm d.rs d.rz d.lo d.hi)] w fun e w'=>e=.returned (.int .i8 (joinV d x y))∧Below w.heap.size w w':=by
 have p1:=prod8 hx hd.za hd.qm
 have p2:=prod8 hy hd.zb hd.rm
 have b1:=roundV_le _ d.qs _ p1
 have b2:=roundV_le _ d.rs _ p2
 have Q1:=zH (fun w=>rfixRight_any d.qm d.qs d.qz w)
 have Q2:=zH (fun w=>rfixRight_any d.rm d.rs d.rz w)
 unfold mayV at hm
 simp only [Bool.and_eq_true] at hm
 rw [hm.1] at Q1
 rw [hm.2] at Q2
 unfold joinV
 obtain ⟨m1,k1⟩:∃ r,(x - d.za)*d.qm=r:=⟨_,rfl⟩
 obtain ⟨m2,k2⟩:∃ r,(y - d.zb)*d.rm=r:=⟨_,rfl⟩
 rw [k1] at b1 p1 ⊢
 rw [k2] at b2 p2 ⊢
 have R1:=zH (fun w=>rround_any m1 d.qs w (by rw [inK_i64];omega))
 have R2:=zH (fun w=>rround_any m2 d.rs w (by rw [inK_i64];omega))
 obtain ⟨r1,h1⟩:∃ r,roundV m1 d.qs=r:=⟨_,rfl⟩
 obtain ⟨r2,h2⟩:∃ r,roundV m2 d.rs=r:=⟨_,rfl⟩
 rw [h1] at R1 b1 ⊢
 rw [h2] at R2 b2 ⊢
 have hz:=hd.qz
 have hza:=hd.za
 have hzb:=hd.zb
 have hlo:=hd.lo
 have hhi:=hd.hi
 have hqm:=hd.qm
 have hrm:=hd.rm
 rw [inK_i8] at hz hza hzb hlo hhi hx hy
 rw [inK_i32] at hqm hrm
 obtain ⟨z1,z2⟩:=hz
 obtain ⟨z3,z4⟩:=hza
 obtain ⟨z5,z6⟩:=hzb
 obtain ⟨z7,z8⟩:=hlo
 obtain ⟨z9,z10⟩:=hhi
 obtain ⟨y1,y2⟩:=hx
 obtain ⟨y3,y4⟩:=hy
 obtain ⟨y5,y6⟩:=hqm
 obtain ⟨y7,y8⟩:=hrm
 have p3:-547608330240≤m1∧m1≤547608330240:=by omega
 have p4:-547608330240≤m2∧m2≤547608330240:=by omega
 have p5:-547608330240≤r1∧r1≤547608330240:=by omega
 have p6:-547608330240≤r2∧r2≤547608330240:=by omega
 obtain ⟨p3,p3'⟩:=p3
 obtain ⟨p4,p4'⟩:=p4
 obtain ⟨p5,p5'⟩:=p5
 obtain ⟨p6,p6'⟩:=p6
 clear p1 p2 b1 b2 h1 h2 hm hd
 have CL:=zH (fun w=>rheld_any (r1+r2+d.qz) d.lo d.hi w)
 have FR:=zH (Far.refl w)
 obtain ⟨w1,hw_w1,BN,k_w1⟩:=nB w (nN d.kind d.a d.b d.k d.s d.p d.out d.za d.zb W nw cw B nb cb d.qm d.qs d.qz d.rm d.rs d.rz d.lo d.hi) 87
 replace FR:=zH (FR.out.fut k_w1)
 clear k_w1
 go_enter Tryz.func110,Tryz.ntmps110
 go_wp2_with (first|(refine wpList_load_blk rfl 85 (.tmp 9) rfl w.heap.size 11 rfl _ (nN d.kind d.a d.b d.k d.s d.p d.out d.za d.zb W nw cw B nb cb d.qm d.qs d.qz d.rm d.rs d.rz d.lo d.hi) #[.int .i32 d.qm,.int .i64 d.qs,.int .i8 d.qz] _ BN.out Tryz.underlying85 rfl (by kernel_rfl) rfl ?_)|(refine wpList_load_blk rfl 85 (.tmp 14) rfl w.heap.size 14 rfl _ (nN d.kind d.a d.b d.k d.s d.p d.out d.za d.zb W nw cw B nb cb d.qm d.qs d.qz d.rm d.rs d.rz d.lo d.hi) #[.int .i32 d.rm,.int .i64 d.rs,.int .i8 d.rz] _ BN.out Tryz.underlying85 rfl (by kernel_rfl) rfl ?_)|(go_at_call 79;first|(with_reducible refine (Q1.out _).mono ?_;rintro e w2 ⟨rfl,hb⟩;replace FR:=zH (FR.out.fut hb);replace BN:=zH (BN.out.fut hb);clear hb;have c14:=BN.out.cell 14;have c15:=BN.out.cell 15;have c16:=BN.out.cell 16;simp only [gX] at c14 c15 c16)|(with_reducible refine (Q2.out _).mono ?_;rintro e w3 ⟨rfl,hb⟩;replace FR:=zH (FR.out.fut hb);replace BN:=zH (BN.out.fut hb);clear hb c14 c15 c16 hw_w1;have c7:=BN.out.cell 7;have c11:=BN.out.cell 11;have c12:=BN.out.cell 12)))
 go_wp2_with (go_at_call 150;with_reducible refine (R1.out _).mono ?_;rintro e w4 ⟨rfl,hb⟩;replace FR:=zH (FR.out.fut hb);replace BN:=zH (BN.out.fut hb);clear hb c7 c11 c12;have c8:=BN.out.cell 8;have c14:=BN.out.cell 14;have c15:=BN.out.cell 15)
 go_wp2_with (go_at_call 150;with_reducible refine (R2.out _).mono ?_;rintro e w5 ⟨rfl,hb⟩;replace FR:=zH (FR.out.fut hb);replace BN:=zH (BN.out.fut hb);clear hb c8 c14 c15;have c13:=BN.out.cell 13;have c17:=BN.out.cell 17;have c18:=BN.out.cell 18)
 go_wp2_with (go_at_call 151;refine (CL.out _).mono ?_;rintro e w6 ⟨rfl,rfl⟩)
 go_ret
 exact ⟨rfl,FR.out.out⟩
end Go.Proofs.YtppcjcigekoipaaGreat
