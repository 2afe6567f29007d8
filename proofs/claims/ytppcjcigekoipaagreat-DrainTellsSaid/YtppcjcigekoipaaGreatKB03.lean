/-
  The walk of the law DrainTells (layer 48); the document's greatest cost (layer 43).
-/
import Derived.Test.YtppcjcigekoipaaGreatKB02
import Derived.Test.YtppcjcigekoipaaGreatJ44
set_option linter.unusedVariables false
set_option linter.unusedSimpArgs false
namespace Go.Proofs.YtppcjcigekoipaaGreat
open Go.RowKit Go.ChangeShapes Go.WideShapes
set_option maxRecDepth 100000
set_option maxHeartbeats 8000000
theorem rgreatest_any (u:Bun) (A:Option Addr) (n cap:Nat) (w:World) (hu:Sl tModel w (blo w.heap.size) A n cap u.models) (hf:fewU u) (ok:BunOk u) :
  Calls Tryz.prog 9 #[.agg #[.int .i64 u.h,.int .i64 u.v,.int .i64 u.c,.int .i64 u.cl,.slice A n cap]] w fun e w'=>e=.returned (.int .i64 (mostL (tableC u).flatten))∧Below w.heap.size w w':=by
 have HU:=zH (Old.now hu)
 have LU:=zH hu.n_eq
 have RC:=zH (fun w h km m hm j hj=>rcost_any u A n cap w h hf ok km m hm j hj)
 have TA:=zH (fun k m hm=>tableC_at (u:=u) (k:=k) (m:=m) hm)
 have TL:=zH (tab_len u)
 have FU:=zH (fun m hm=>(hf.2 m hm).1)
 have n4:n≤4:=by have:=hf.1;rw [hu.n_eq] at this;exact this
 obtain ⟨h0,hh⟩:∃ x,u.h=x:=⟨_,rfl⟩
 obtain ⟨v0,hv⟩:∃ x,u.v=x:=⟨_,rfl⟩
 obtain ⟨c0,hc⟩:∃ x,u.c=x:=⟨_,rfl⟩
 obtain ⟨l0,hl⟩:∃ x,u.cl=x:=⟨_,rfl⟩
 simp only [hh,hv,hc,hl] at RC TA
 rw [hh,hv,hc,hl]
 obtain ⟨tb,htb⟩:∃ x,tableC u=x:=⟨_,rfl⟩
 rw [htb] at TL ⊢
 simp only [htb] at TA
 clear hh hv hc hl htb hu hf ok
 have H:=zH (Far.refl w)
 obtain ⟨w1,hw_w1,B1,k1⟩:=nB w #[.int .i64 h0,.int .i64 v0,.int .i64 c0,.int .i64 l0,.slice A n cap] 26
 replace H:=zN k1 H B1
 clear B1 k1
 have cA:=fun i=>H.out.2.cell i
 go_enter Tryz.func9,Tryz.ntmps9
 go_wp2_with fail
 clear cA hw_w1
 have H2:=H
 clear H
 go_loopw [3,4] (fun mo i wr=>∃ k:Nat,k≤n∧i=.int .i64 k∧mo=.int .i64 (mostL (tb.take k).flatten)∧Below w1.heap.size w1 wr) (fun _ i _=>n - (intOf i).toNat)
 case atStart=>exact ⟨0,Nat.zero_le _,rfl,rfl,Below.refl _ _⟩
 case round =>
  obtain ⟨k,hk,rfl,rfl,hbr⟩:=hrel
  obtain ⟨wo,hwo⟩:∃ x,x=wr:=⟨_,rfl⟩
  subst hwo
  have H:=zF hbr H2
  have GR:=zH hbr
  have cA:=fun i=>H.out.2.cell i
  clear hbr
  by_cases hlt:k < n
  ·have p1:(k:Int) < (n:Int):=by omega
   have gk:IntKind.i64.wrap ((k:Int)+1)=((k+1:Nat):Int):=(IntWalk.i64_in _ (by omega)).trans (by simp)
   obtain ⟨m,ga,oa,A',n',c',hm,rfl,hga,hca,hA⟩:=(HU.out.fut H.out.1.out).out.model_at k hlt
   have ln:=hA.n_eq
   have n8:n'≤8:=by have:=FU.out m (List.mem_of_getElem? hm);omega
   have ROW:=zH (TA.out k m hm)
   obtain ⟨row,hrow⟩:∃ x,rowC m (h0,v0,c0) l0=x:=⟨_,rfl⟩
   have RA:=zH (fun j (hj:j < n')=>show row[j]?=some (blockC (m.getD j noBlk) (inV m (h0,v0,c0) j) l0) by rw [← hrow];exact rowC_at (by omega))
   have RL:=zH (show row.length=n' by rw [← hrow,rowC_len,ln])
   rw [hrow] at ROW
   have CR:=zH (costsTo_row ROW.out)
   have CN:=zH (fun j c h=>costsTo_next (tb:=tb) (k:=k) (row:=row) (j:=j) (c:=c) h)
   have C0:=costsTo_zero (tb:=tb) (k:=k) (row:=row)
   have RCM:=zH (fun w h j (hj:j < n')=>RC.out w h k m hm j (by omega))
   rw [← C0]
   clear hm hga hA hrow C0
   go_wp2_with fail
   clear cA
   go_loopw [3,5] (fun mo i wr=>∃ j:Nat,j≤n'∧i=.int .i64 j∧mo=.int .i64 (mostL (costsTo tb k row j))∧Below wo.heap.size wo wr) (fun _ i _=>n' - (intOf i).toNat)
   case atStart=>exact ⟨0,Nat.zero_le _,rfl,rfl,Below.refl _ _⟩
   case round =>
    obtain ⟨j,hj,rfl,rfl,hbi⟩:=hrel
    obtain ⟨wi,hwi⟩:∃ x,x=wr:=⟨_,rfl⟩
    subst hwi
    have HI:=zF hbi H
    have GI:=zH hbi
    have cA:=fun i=>HI.out.2.cell i
    have hcb:=cell_later hbi hca
    clear hbi
    by_cases hlj:j < n'
    ·have p2:(j:Int) < (n':Int):=by omega
     have gj:IntKind.i64.wrap ((j:Int)+1)=((j+1:Nat):Int):=(IntWalk.i64_in _ (by omega)).trans (by simp)
     have RJ:=zH (fun w h=>RCM.out w h j hlj)
     obtain ⟨bc,hbc⟩:∃ x,blockC (m.getD j noBlk) (inV m (h0,v0,c0) j) l0=x:=⟨_,rfl⟩
     have NX:=zH (show mostL (costsTo tb k row (j+1))=max (mostL (costsTo tb k row j)) bc by rw [CN.out j bc (by rw [RA.out j hlj,hbc]),mostL_snoc])
     simp only [hbc] at RJ
     obtain ⟨M,hM⟩:∃ M,mostL (costsTo tb k row j)=M:=⟨_,rfl⟩
     rw [hM] at NX ⊢
     obtain ⟨M2,gM⟩:∃ x,(if M < bc then bc else M)=x:=⟨_,rfl⟩
     have M0:=zH (show mostL (costsTo tb k row (j+1))=M2 by rw [NX.out,← gM];split <;> omega)
     clear hbc hM NX
     go_wp2_with (refine lB 26 (.tmp 1) w.heap.size HI.out.2 Tryz.underlying26 ?_)
     refine (RJ.out _ (HU.out.fut HI.out.1.out).all).mono ?_
     rintro e w5 ⟨rfl,hb⟩
     have G5:=zH (below_later hb GI.out)
     clear hb
     go_wp2_with fail
     exact ⟨⟨j+1,by omega,by go_num,by rw [M0.out],G5.out⟩,by simp [intOf];omega⟩
    ·have hjn:j=n':=by omega
     have p2:¬ (j:Int) < (n':Int):=by omega
     have E:=zH (show mostL (costsTo tb k row j)=mostL (tb.take (k+1)).flatten by rw [CR.out,RL.out,hjn])
     clear hjn
     go_wp2_with fail
     exact ⟨⟨k+1,by omega,by go_num,by rw [E.out],below_later GI.out GR.out⟩,by simp [intOf];omega⟩
  ·have hkn:k=n:=by omega
   have p1:¬ (k:Int) < (n:Int):=by omega
   have TT:=zH (show tb.take k=tb from List.take_of_length_le (by rw [TL.out,LU.out];omega))
   clear hkn
   go_wp2_with fail
   go_ret
   exact ⟨by rw [TT.out] <;> rfl,H.out.1.out⟩
theorem rright33_any (u:Bun) (A:Option Addr) (n cap:Nat) (w:World) (hu:Sl tModel w (blo w.heap.size) A n cap u.models) (hi:inU u) (hf:fewU u) :
  Calls Tryz.prog 5 #[.agg #[.int .i64 u.h,.int .i64 u.v,.int .i64 u.c,.int .i64 u.cl,.slice A n cap]] w fun e w'=>e=.returned (.bool ((bundleV u).1 == 0))∧Below w.heap.size w w':=by
 have VB:=zH (fun w h=>rvbundle_any u A n cap w h hi hf)
 have HU:=zH (Old.now hu)
 obtain ⟨h0,hh⟩:∃ x,u.h=x:=⟨_,rfl⟩
 obtain ⟨v0,hv⟩:∃ x,u.v=x:=⟨_,rfl⟩
 obtain ⟨c0,hc⟩:∃ x,u.c=x:=⟨_,rfl⟩
 obtain ⟨l0,hl⟩:∃ x,u.cl=x:=⟨_,rfl⟩
 obtain ⟨⟨x1,x2,x3,x4⟩,hx⟩:∃ x,bundleV u=x:=⟨_,rfl⟩
 simp only [hx,hh,hv,hc,hl] at VB ⊢
 clear hh hv hc hl hx hu hi hf
 have H:=zH (Far.refl w)
 obtain ⟨w1,hw_w1,B1,k1⟩:=nB w #[.int .i64 h0,.int .i64 v0,.int .i64 c0,.int .i64 l0,.slice A n cap] 26
 replace H:=zN k1 H B1
 clear B1 k1
 have hfd:∀ w:World,(Instr.field 53 (.agg #[.int .i64 x1,.int .i64 x2,.int .i64 x3,.int .i64 x4]) 0).run Tryz.prog w=.ok (.int .i64 x1) w:=fun _=>by kernel_rfl
 go_enter Tryz.func5,Tryz.ntmps5
 go_wp2_with (refine lB 26 (.tmp 1) w.heap.size H.out.2 Tryz.underlying26 ?_)
 refine (VB.out _ (HU.out.fut H.out.1.out).all).mono ?_
 rintro e w2 ⟨rfl,hb⟩
 replace H:=zF hb H
 clear hb hw_w1
 go_wp2_with fail
 go_ret
 exact ⟨rfl,H.out.1.out⟩
theorem known48_any (w:World):Calls Tryz.prog 6 #[] w fun e w'=>e=.returned (.bool true)∧Below w.heap.size w w':=by
 have EM:=zH (fun w=>empty_nil 5 5 w)
 have EN:=zH (fun w=>engNew_any w)
 have EW:=zH (fun ge ga gl gr gs gm w h=>empty_new ge ga gl gr gs gm 5 5 w h)
 have GN:=zH (fun w=>good_nil 0 0 0 0 0 w)
 have TN:=zH (fun w=>ticks_nil 0 0 0 0 0 w)
 have ON:=zH (fun w=>open_nil w)
 have H:=zH (Far.refl w)
 go_enter Tryz.func6,Tryz.ntmps6
 go_wp2_with fail
 refine (EM.out _).mono ?_
 rintro e w1 ⟨rfl,hb⟩
 replace H:=zF hb H
 clear hb
 go_wp2_with fail
 refine (EN.out _).mono ?_
 rintro e w2 ⟨ge,ga,gl,gr,gs,gm,rfl,he,-,hb⟩
 replace H:=zF hb H
 have HE:=zH he
 clear hb he
 go_wp2_with fail
 refine (EW.out _ _ _ _ _ _ _ HE.out).mono ?_
 rintro e w3 ⟨rfl,hb⟩
 replace H:=zF hb H
 clear hb
 go_wp2_with fail
 refine (GN.out _).mono ?_
 rintro e w4 ⟨rfl,hb⟩
 replace H:=zF hb H
 clear hb
 go_wp2_with fail
 refine (TN.out _).mono ?_
 rintro e w5 ⟨rfl,hb⟩
 replace H:=zF hb H
 clear hb
 go_wp2_with fail
 refine (ON.out _).mono ?_
 rintro e w6 ⟨rfl,hb⟩
 replace H:=zF hb H
 clear hb
 go_wp2_with fail
 go_ret
 exact ⟨rfl,H.out.out⟩
theorem drainTells_any (u:Bun) (A:Option Addr) (n cap:Nat) (l c r q k:Int) (w:World) (hu:Sl tModel w (blo w.heap.size) A n cap u.models) (hi:inU u) :
  Calls Tryz.prog 3 #[.agg #[.int .i64 u.h,.int .i64 u.v,.int .i64 u.c,.int .i64 u.cl,.slice A n cap],.agg #[.int .i64 l,.int .i64 c,.int .i64 r,.int .i64 q,.int .i64 k]] w fun e w'=>e=.returned (.bool true)∧Below w.heap.size w w':=by
 have KN:=zH (fun w=>known48_any w)
 have FW:=zH (fun w h=>few31_any u A n cap w h)
 have RV:=zH (fun w h hf=>rright33_any u A n cap w h hi hf)
 have NO:=zH (fun w h hf hz=>new_ok u A n cap w h hi hf hz)
 have GE:=zH (fun w h hf ok=>rgreatest_any u A n cap w h hf ok)
 have SR:=zH (fun w h hf=>rsteps36_any u A n cap w h hf)
 have RR:=zH (fun w=>rcfgRight_any l c r q k w)
 have HU:=zH (Old.now hu)
 have LU:=zH hu.n_eq
 have OKV:=zH (fun hz=>bundleV_ok (u:=u) hz)
 have HL:=zH (fun hf=>tab_rows (u:=u) hf)
 have TL:=zH (tab_len u)
 have LT:=zH (lens_tab u)
 have TI:=zH (fun ok=>table_in (u:=u) ok)
 have CB:=zH (cfg_bd (l:=l) (c:=c) (r:=r) (q:=q) (k:=k))
 obtain ⟨h0,hh⟩:∃ x,u.h=x:=⟨_,rfl⟩
 obtain ⟨v0,hv⟩:∃ x,u.v=x:=⟨_,rfl⟩
 obtain ⟨c0,hc⟩:∃ x,u.c=x:=⟨_,rfl⟩
 obtain ⟨l0,hl⟩:∃ x,u.cl=x:=⟨_,rfl⟩
 rw [hh,hv,hc,hl]
 have NAT:=zH (fun S g w (h:NetAt u S g w)=>show ∃ A n cap B cb C cc,Blk w g 75 #[.int .i64 h0,.int .i64 v0,.int .i64 c0,.int .i64 l0,.slice A n cap,.slice B n cb,.slice C n cc]∧Sl tRow w S B n cb (tableC u) by
  obtain ⟨A,n,cap,B,cb,C,cc,h1,-,h2,-⟩:=h.out
  rw [hh,hv,hc,hl] at h1
  exact ⟨A,n,cap,B,cb,C,cc,h1,h2⟩)
 simp only [hh,hv,hc,hl] at FW RV NO GE SR
 obtain ⟨x1,hx⟩:∃ x,(bundleV u).1=x:=⟨_,rfl⟩
 simp only [hx] at RV NO OKV
 obtain ⟨tb,htb⟩:∃ x,tableC u=x:=⟨_,rfl⟩
 simp only [htb] at GE HL TL LT NAT TI
 obtain ⟨b,hb⟩:∃ b,cfgR l c r q k=b:=⟨_,rfl⟩
 have GA:=zH (fun g cs B n cb w hb h5 ht hn hr hc=>good_any g cs B n cb tb l c r q k w hb h5 ht hn hr hc)
 have TK:=zH (fun g cs B n cb w hb h5 ht hn hr=>ticks_any g cs B n cb tb l c r q k w hb h5 ht hn hr)
 simp only [hb] at RR CB GA TK
 unfold RetFew at FW
 clear hh hv hc hl hx htb hb hu hi
 have H:=zH (Far.refl w)
 obtain ⟨w1,hw_w1,B1,k1⟩:=nB w #[.int .i64 h0,.int .i64 v0,.int .i64 c0,.int .i64 l0,.slice A n cap] 26
 replace H:=zN k1 H B1
 clear B1 k1
 obtain ⟨w2,hw_w2,B2,k2⟩:=nB w1 #[.int .i64 l,.int .i64 c,.int .i64 r,.int .i64 q,.int .i64 k] 28
 replace H:=zN k2 H B2
 clear B2 k2
 go_enter Tryz.func3,Tryz.ntmps3
 go_wp2_with (refine lB 26 (.tmp 2) w.heap.size H.out.1.2 Tryz.underlying26 ?_)
 refine (FW.out _ (HU.out.fut H.out.1.1.out).all).mono ?_
 rintro e w3 ⟨f,rfl,hf,hb⟩
 replace H:=zF hb H
 have FU:=zH hf
 clear hb hf FW hw_w1 hw_w2
 cases f with
 | false =>
  clear FU
  go_wp2_with fail
  refine (KN.out _).mono ?_
  rintro e wk ⟨rfl,hb⟩
  replace H:=zF hb H
  clear hb
  go_wp2_with fail
  go_ret
  exact ⟨rfl,H.out.1.1.out⟩
 | true =>
 have HF:=zH (FU.out rfl)
 go_wp2_with (refine wpList_load_midw (by kernel_rfl) 26 (.tmp 2) rfl w.heap.size 0 rfl [.int .i64 h0,.int .i64 v0,.int .i64 c0,.int .i64 l0,.slice A n cap] _ (range_blk H.out.1.2 rfl) Tryz.underlying26 rfl (by kernel_rfl) ?_)
 refine (RV.out _ (HU.out.fut H.out.1.1.out).all HF.out).mono ?_
 rintro e w4 ⟨rfl,hb⟩
 replace H:=zF hb H
 clear hb RV FU
 by_cases hz:x1=0
 rotate_left
 ·have t4:(x1 == 0)=false:=by simpa using hz
  clear hz OKV NO
  go_wp2_with fail
  refine (KN.out _).mono ?_
  rintro e wk ⟨rfl,hb⟩
  replace H:=zF hb H
  clear hb
  go_wp2_with fail
  go_ret
  exact ⟨rfl,H.out.1.1.out⟩
 subst hz
 have OK:=zH (OKV.out (by trivial))
 clear OKV
 go_wp2_with (refine lB 26 (.tmp 2) w.heap.size H.out.1.2 Tryz.underlying26 ?_)
 refine (NO.out _ (HU.out.fut H.out.1.1.out).all HF.out (by trivial)).mono ?_
 rintro e w5 ⟨g,rfl,-,hna,hb⟩
 replace H:=zF hb H
 obtain ⟨A1,n2,c1,B,cb,C,cc,hblk,hrow⟩:=NAT.out _ _ _ hna
 have NT:=zH (And.intro hblk (Old.now hrow.old))
 have N2:n2=n:=by rw [← hrow.n_eq,TL.out,LU.out]
 subst N2
 clear hb NO NAT hna hblk hrow
 have n4:n2≤4:=by have:=HF.out.1;rw [LU.out] at this;exact this
 go_wp2_with (refine lB 28 (.tmp 3) w1.heap.size H.out.2 Tryz.underlying28 ?_)
 refine (RR.out _).mono ?_
 rintro e w6 ⟨rfl,hb⟩
 replace H:=zF hb H
 replace NT:=zF hb NT
 clear hb RR
 obtain ⟨M,hM⟩:∃ M,mostL tb.flatten=M:=⟨_,rfl⟩
 have MB:=zH (show 0≤M∧M≤300000000 by rw [← hM];exact mostL_bd (by omega) (fun x hx=>by obtain ⟨r,hr,hx⟩:=List.mem_flatten.1 hx;exact (TI.out OK.out r hr x hx).2))
 obtain ⟨L,hL⟩:∃ L:Int,((lens tb:Nat):Int)=L:=⟨_,rfl⟩
 have LB:=zH (show 0≤L∧L≤10000 by
  have h1:=lens_le (HL.out HF.out) n2
  rw [List.take_of_length_le (by rw [TL.out,LU.out];exact Nat.le_refl _)] at h1
  rw [← hL];omega)
 rw [← LT.out] at SR
 simp only [hM] at GE GA
 simp only [hL] at SR TK
 obtain ⟨gd,hgd⟩:∃ x,(if b=true then M+r else 0)=x:=⟨_,rfl⟩
 obtain ⟨tk,htk⟩:∃ x,(if b=true then (q+2*k)*L else 0)=x:=⟨_,rfl⟩
 simp only [hgd] at GA
 simp only [htk] at TK
 have GT:=zH (And.intro hgd htk)
 clear hM hL hgd htk
 go_upto_if 26 with fail
 go_cut [7,8] (fun x y wx=>x=.int .i64 gd∧y=.int .i64 tk∧Below w6.heap.size w6 wx)
 case first =>
  cases b with
  | false =>
   obtain ⟨rfl,rfl⟩:=(show (0:Int)=gd∧(0:Int)=tk by simpa using GT.out)
   go_wp2_with fail
   go_meet
   case rel=>exact ⟨rfl,rfl,Below.refl _ _⟩
  | true =>
   obtain ⟨hg1,hg2⟩:=(show M+r=gd∧(q+2*k)*L=tk by simpa using GT.out)
   obtain ⟨⟨r0,r1⟩,⟨q0,q1⟩,⟨k0,k1⟩⟩:=CB.out rfl
   obtain ⟨m0,m1⟩:=MB.out
   obtain ⟨L0,L1⟩:=LB.out
   have e1:IntKind.i64.wrap (M+r)=gd:=by rw [← hg1];exact IntWalk.i64_in _ (by omega)
   have e2:IntKind.i64.wrap (2*k)=2*k:=IntWalk.i64_in _ (by omega)
   have e3:IntKind.i64.wrap (q+2*k)=q+2*k:=IntWalk.i64_in _ (by omega)
   have e4:IntKind.i64.wrap ((q+2*k)*L)=tk:=by
    have h1:=Int.mul_le_mul (a:=q+2*k) (b:=L) (c:=96) (d:=10000) (by omega) (by omega) (by omega) (by omega)
    have h2:=Int.mul_nonneg (a:=q+2*k) (b:=L) (by omega) (by omega)
    rw [← hg2];exact IntWalk.i64_in _ (by omega)
   have R0:=zH (fun z:Ext w6=>range_blk (off:=0) (vs:=[.int .i64 h0,.int .i64 v0,.int .i64 c0,.int .i64 l0,.slice A n2 cap]) (H.out.1.2.ext z) rfl)
   have cc2:∀ z:Ext w6,z.1.cell? ⟨w1.heap.size,2,none⟩=some (.int .i64 r):=fun z=>(H.out.2.ext z).cell 2
   have cc3:∀ z:Ext w6,z.1.cell? ⟨w1.heap.size,3,none⟩=some (.int .i64 q):=fun z=>(H.out.2.ext z).cell 3
   have cc4:∀ z:Ext w6,z.1.cell? ⟨w1.heap.size,4,none⟩=some (.int .i64 k):=fun z=>(H.out.2.ext z).cell 4
   have E1:=zH (fun z:Ext w6=>calls_ext z (GE.out z.1 ((HU.out.fut H.out.1.1.out).fut z.2).all HF.out OK.out))
   have E2:=zH (fun z:Ext w6=>calls_ext z (SR.out z.1 ((HU.out.fut H.out.1.1.out).fut z.2).all HF.out))
   clear hg1 hg2
   go_upto_region 8 with fail
   refine wp_region_ext w6 (by kernel_rfl) (by kernel_rfl) (Below.refl _ _) ?_
   refine wpQuiet_load_mid (by kernel_rfl) 26 (.tmp 2) rfl w.heap.size 0 rfl _ _ (by rintro _ ⟨z,rfl⟩;exact R0.out z) Tryz.underlying26 rfl (by kernel_rfl) ?_
   simp only [pX]
   repeat (go_big_quiet_step ((with_reducible exact E1.out _)))
   refine wpQuiet_load_mid (by kernel_rfl) 26 (.tmp 2) rfl w.heap.size 0 rfl _ _ (by rintro _ ⟨z,rfl⟩;exact R0.out z) Tryz.underlying26 rfl (by kernel_rfl) ?_
   simp only [pX]
   repeat (go_big_quiet_step ((with_reducible exact E2.out _)))
   refine wpQuiet_nil ?_
   rintro wa ⟨⟨_,hb⟩,rfl⟩
   have GB:=zH hb
   clear hb R0 cc2 cc3 cc4 E1 E2
   go_wp2_with fail
   go_meet
   case rel=>exact ⟨rfl,rfl,GB.out⟩
 case rest =>
 obtain ⟨rfl,rfl,hb⟩:=hcut
 replace H:=zF hb H
 replace NT:=zF hb NT
 clear hb GE SR GT
 go_wp2_with (refine lB 28 (.tmp 3) w1.heap.size H.out.2 Tryz.underlying28 ?_)
 refine (GA.out g _ B n2 cb _ NT.out.1 rfl NT.out.2.all (by omega) (HL.out HF.out) (TI.out OK.out)).mono ?_
 rintro e w7 ⟨rfl,hb⟩
 replace H:=zF hb H
 replace NT:=zF hb NT
 clear hb GA
 have e7:(gd == gd)=true:=by simp
 go_wp2_with (refine wpList_load_midw (by kernel_rfl) 28 (.tmp 3) rfl w1.heap.size 0 rfl [.int .i64 l,.int .i64 c,.int .i64 r,.int .i64 q,.int .i64 k] _ (range_blk H.out.2 rfl) Tryz.underlying28 rfl (by kernel_rfl) ?_)
 refine (TK.out g _ B n2 cb _ NT.out.1 rfl NT.out.2.all (by omega) (HL.out HF.out)).mono ?_
 rintro e w8 ⟨rfl,hb⟩
 replace H:=zF hb H
 clear hb TK NT
 have e8:(tk == tk)=true:=by simp
 go_wp2_with fail
 refine (KN.out _).mono ?_
 rintro e wk ⟨rfl,hb⟩
 replace H:=zF hb H
 clear hb
 go_wp2_with fail
 go_ret
 exact ⟨rfl,H.out.1.1.out⟩
structure Cfg where
 l:Int
 c:Int
 r:Int
 q:Int
 k:Int
def tCfg:Ty Cfg:=tMap (fun (x:Int × Int × Int × Int × Int)=>⟨x.1,x.2.1,x.2.2.1,x.2.2.2.1,x.2.2.2.2⟩) (tPair (tInt .i64) (tPair (tInt .i64) (tPair (tInt .i64) (tPair (tInt .i64) (tInt .i64)))))
theorem opens_cfg:Opens Tryz.prog 28 tCfg:=opens_map _ (opens_struct Tryz.underlying28 (by kernel_rfl) (opensFrom_cons rfl opens_i64 (opensFrom_cons rfl opens_i64 (opensFrom_cons rfl opens_i64 (opensFrom_cons rfl opens_i64 (opensFrom_last rfl opens_i64))))))
theorem cfg_open {w:World} {S:Nat → Prop} {cs:List Value} {p:Cfg} (h:tCfg.rep w S cs p):cs=[.int .i64 p.l,.int .i64 p.c,.int .i64 p.r,.int .i64 p.q,.int .i64 p.k]:=by
 obtain ⟨⟨a,b,c,d,e⟩,rfl,_,_,rfl,⟨rfl,_⟩,_,_,rfl,⟨rfl,_⟩,_,_,rfl,⟨rfl,_⟩,_,_,rfl,⟨rfl,_⟩,rfl,_⟩:=h
 rfl
theorem drainTells_walk (cs:Array Value) (u:Bun) {W:World} (hu:tBun.rep W (blo W.heap.size) cs.toList u) (ct:Array Value) (p:Cfg) (hp:tCfg.rep W (blo W.heap.size) ct.toList p) (w:World) (e:W=w) :
  Calls Tryz.prog 3 #[.agg cs,.agg ct] w fun e w'=>e=.returned (.bool true)∧Below w.heap.size w w':=by
 subst e
 obtain ⟨A,n,cap,e1,hi,hs⟩:=bun_open hu
 have e2:=cfg_open hp
 obtain ⟨cs⟩:=cs
 obtain ⟨ct⟩:=ct
 simp only at e1 e2
 subst e1 e2
 exact drainTells_any u A n cap p.l p.c p.r p.q p.k _ hs hi
end Go.Proofs.YtppcjcigekoipaaGreat
