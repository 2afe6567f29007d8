/-
  How many ticks are enough, and what a good one grants (layer 48: drain); the fixed calls of its law.
-/
import Derived.Test.YtppcjcigekoipaaGreatKB00
import Derived.Test.YtppcjcigekoipaaGreatKB01
set_option linter.unusedVariables false
set_option linter.unusedSimpArgs false
namespace Go.Proofs.YtppcjcigekoipaaGreat
open Go.RowKit Go.ChangeShapes Go.WideShapes
set_option maxRecDepth 100000
set_option maxHeartbeats 8000000
theorem may_nil (l c r q k:Int) (w:World):Calls Tryz.prog 24 #[.pointer none,.agg #[.int .i64 l,.int .i64 c,.int .i64 r,.int .i64 q,.int .i64 k]] w fun e w'=>e=.returned (.bool (false))∧Below w.heap.size w w':=by
 have EN:=zH (fun w=>engNewG l c r q k w)
 obtain ⟨b,hb⟩:∃ b,cfgR l c r q k=b:=⟨_,rfl⟩
 simp only [hb] at EN ⊢
 unfold RetC at EN
 have cr0:codeR true=0:=rfl
 have cr2:codeR false=2:=rfl
 clear hb
 have H:=zH (Far.refl w)
 obtain ⟨w1,hw_w1,B1,k1⟩:=nB w #[.int .i64 l,.int .i64 c,.int .i64 r,.int .i64 q,.int .i64 k] 28
 replace H:=zN k1 H B1
 clear B1 k1
 go_enter Tryz.func24,Tryz.ntmps24
 go_wp2_with (refine lB 28 (.tmp 3) w.heap.size H.out.2 Tryz.underlying28 ?_)
 refine (EN.out _).mono ?_
 rintro e w2 ⟨⟨p1,rfl⟩,hb⟩
 replace H:=zF hb H
 clear hb hw_w1
 cases b with
 | false =>
  go_wp2_with fail
  go_ret
  exact ⟨rfl,H.out.1.out⟩
 | true =>
  go_wp2_with fail
  go_ret
  exact ⟨rfl,H.out.1.out⟩
theorem may_some (a:Addr) (l c r q k:Int) (w:World):Calls Tryz.prog 24 #[.pointer (some a),.agg #[.int .i64 l,.int .i64 c,.int .i64 r,.int .i64 q,.int .i64 k]] w fun e w'=>e=.returned (.bool (cfgR l c r q k))∧Below w.heap.size w w':=by
 have EN:=zH (fun w=>engNewG l c r q k w)
 obtain ⟨b,hb⟩:∃ b,cfgR l c r q k=b:=⟨_,rfl⟩
 simp only [hb] at EN ⊢
 unfold RetC at EN
 have cr0:codeR true=0:=rfl
 have cr2:codeR false=2:=rfl
 clear hb
 have H:=zH (Far.refl w)
 obtain ⟨w1,hw_w1,B1,k1⟩:=nB w #[.int .i64 l,.int .i64 c,.int .i64 r,.int .i64 q,.int .i64 k] 28
 replace H:=zN k1 H B1
 clear B1 k1
 go_enter Tryz.func24,Tryz.ntmps24
 go_wp2_with (refine lB 28 (.tmp 3) w.heap.size H.out.2 Tryz.underlying28 ?_)
 refine (EN.out _).mono ?_
 rintro e w2 ⟨⟨p1,rfl⟩,hb⟩
 replace H:=zF hb H
 clear hb hw_w1
 cases b with
 | false =>
  go_wp2_with fail
  go_ret
  exact ⟨rfl,H.out.1.out⟩
 | true =>
  go_wp2_with fail
  go_ret
  exact ⟨rfl,H.out.1.out⟩
theorem good_nil (l c r q k:Int) (w:World):Calls Tryz.prog 11 #[.pointer none,.agg #[.int .i64 l,.int .i64 c,.int .i64 r,.int .i64 q,.int .i64 k]] w fun e w'=>e=.returned (.int .i64 0)∧Below w.heap.size w w':=by
 have MN:=zH (fun w=>may_nil l c r q k w)
 have H:=zH (Far.refl w)
 obtain ⟨w1,hw_w1,B1,k1⟩:=nB w #[.int .i64 l,.int .i64 c,.int .i64 r,.int .i64 q,.int .i64 k] 28
 replace H:=zN k1 H B1
 clear B1 k1
 go_enter Tryz.func11,Tryz.ntmps11
 go_wp2_with (refine lB 28 (.tmp 3) w.heap.size H.out.2 Tryz.underlying28 ?_)
 refine (MN.out _).mono ?_
 rintro e w2 ⟨rfl,hb⟩
 replace H:=zF hb H
 clear hb hw_w1
 go_wp2_with fail
 go_ret
 exact ⟨rfl,H.out.1.out⟩
theorem ticks_nil (l c r q k:Int) (w:World):Calls Tryz.prog 12 #[.pointer none,.agg #[.int .i64 l,.int .i64 c,.int .i64 r,.int .i64 q,.int .i64 k]] w fun e w'=>e=.returned (.int .i64 0)∧Below w.heap.size w w':=by
 have MN:=zH (fun w=>may_nil l c r q k w)
 have H:=zH (Far.refl w)
 obtain ⟨w1,hw_w1,B1,k1⟩:=nB w #[.int .i64 l,.int .i64 c,.int .i64 r,.int .i64 q,.int .i64 k] 28
 replace H:=zN k1 H B1
 clear B1 k1
 go_enter Tryz.func12,Tryz.ntmps12
 go_wp2_with (refine lB 28 (.tmp 3) w.heap.size H.out.2 Tryz.underlying28 ?_)
 refine (MN.out _).mono ?_
 rintro e w2 ⟨rfl,hb⟩
 replace H:=zF hb H
 clear hb hw_w1
 go_wp2_with fail
 go_ret
 exact ⟨rfl,H.out.1.out⟩
theorem cfg_bd {l c r q k:Int} (h:cfgR l c r q k=true):(0≤r∧r < 1099511627776)∧(1≤q∧q≤64)∧(1≤k∧k≤16):=by
 unfold cfgR tokR at h
 simp only [Bool.and_eq_true,decide_eq_true_eq] at h
 omega
theorem good_any (g:Nat) (cs:Array Value) (B:Option Addr) (n cb:Nat) (tb:List (List Int)) (l c r q k:Int) (w:World) (hb:Blk w g 75 cs) (h5:cs[5]?=some (.slice B n cb)) (ht:Sl tRow w (blo w.heap.size) B n cb tb) (hn:n≤100) (hr:∀ r ∈ tb,r.length≤100) (hc:∀ r ∈ tb,∀ c ∈ r,1≤c∧c≤300000000) :
  Calls Tryz.prog 11 #[.pointer (some ⟨g,0,none⟩),.agg #[.int .i64 l,.int .i64 c,.int .i64 r,.int .i64 q,.int .i64 k]] w fun e w'=>e=.returned (.int .i64 (if cfgR l c r q k=true then mostL tb.flatten+r else 0))∧Below w.heap.size w w':=by
 have MS:=zH (fun w=>may_some ⟨g,0,none⟩ l c r q k w)
 have TB:=zH (fun w hb ht=>netTable_any g cs B n cb tb w hb h5 ht hn hr)
 have EN:=zH (fun A n cap w ht hn=>ends_any A n cap tb w ht hn hr (fun r hr c hcc=>(hc r hr c hcc).1))
 have MB:=zH (mostL_bd (l:=tb.flatten) (B:=300000000) (by omega) (fun x hx=>by obtain ⟨r,hr,hx⟩:=List.mem_flatten.1 hx;exact (hc r hr x hx).2))
 have CB:=zH (cfg_bd (l:=l) (c:=c) (r:=r) (q:=q) (k:=k))
 have NB:=zH (And.intro hb (Old.now ht))
 have TN:=zH ht.n_eq
 obtain ⟨b,hbb⟩:∃ b,cfgR l c r q k=b:=⟨_,rfl⟩
 obtain ⟨M,hM⟩:∃ M,mostL tb.flatten=M:=⟨_,rfl⟩
 simp only [hbb] at MS CB ⊢
 simp only [hM] at EN MB ⊢
 unfold RetE at EN
 unfold RetSl at TB
 clear hbb hM hb ht h5 hr hc
 have H:=zH (Far.refl w)
 obtain ⟨w1,hw_w1,B1,k1⟩:=nB w #[.int .i64 l,.int .i64 c,.int .i64 r,.int .i64 q,.int .i64 k] 28
 replace H:=zN k1 H B1
 replace NB:=zF k1 NB
 clear B1 k1
 have cA:=fun i=>H.out.2.cell i
 go_enter Tryz.func11,Tryz.ntmps11
 go_wp2_with (refine lB 28 (.tmp 3) w.heap.size H.out.2 Tryz.underlying28 ?_)
 refine (MS.out _).mono ?_
 rintro e w2 ⟨rfl,hb⟩
 replace H:=zF hb H
 replace NB:=zF hb NB
 clear hb hw_w1 cA
 cases b with
 | false =>
  go_wp2_with fail
  go_ret
  exact ⟨rfl,H.out.1.out⟩
 | true =>
  obtain ⟨⟨r0,r1⟩,-,-⟩:=CB.out rfl
  obtain ⟨m0,m1⟩:=MB.out
  have gw:IntKind.i64.wrap (M+r)=M+r:=IntWalk.i64_in _ (by omega)
  go_wp2_with fail
  refine (TB.out _ NB.out.1 NB.out.2.all).mono ?_
  rintro e w3 ⟨A2,n2,c2,rfl,q2,hb⟩
  replace H:=zF hb H
  have Q2:=zH q2
  obtain rfl:n2=n:=by rw [← q2.n_eq,TN.out]
  clear hb q2
  go_wp2_with fail
  refine (EN.out _ _ _ _ Q2.out.old hn).mono ?_
  rintro e w4 ⟨⟨a,s,rfl⟩,hb⟩
  replace H:=zF hb H
  clear hb
  have c2:=H.out.2.cell 2
  go_wp2_with fail
  go_ret
  exact ⟨rfl,H.out.1.out⟩
theorem ticks_any (g:Nat) (cs:Array Value) (B:Option Addr) (n cb:Nat) (tb:List (List Int)) (l c r q k:Int) (w:World) (hb:Blk w g 75 cs) (h5:cs[5]?=some (.slice B n cb)) (ht:Sl tRow w (blo w.heap.size) B n cb tb) (hn:n≤100) (hr:∀ r ∈ tb,r.length≤100) :
  Calls Tryz.prog 12 #[.pointer (some ⟨g,0,none⟩),.agg #[.int .i64 l,.int .i64 c,.int .i64 r,.int .i64 q,.int .i64 k]] w fun e w'=>e=.returned (.int .i64 (if cfgR l c r q k=true then (q+2*k)*(lens tb:Nat) else 0))∧Below w.heap.size w w':=by
 have MS:=zH (fun w=>may_some ⟨g,0,none⟩ l c r q k w)
 have SB:=zH (fun w hb ht=>netSteps_any g cs B n cb tb w hb h5 ht hn hr)
 have LB:=zH (show lens tb≤n*100 by have:=lens_le hr n;rwa [List.take_of_length_le (by rw [ht.n_eq];exact Nat.le_refl _)] at this)
 have CB:=zH (cfg_bd (l:=l) (c:=c) (r:=r) (q:=q) (k:=k))
 have NB:=zH (And.intro hb (Old.now ht))
 obtain ⟨b,hbb⟩:∃ b,cfgR l c r q k=b:=⟨_,rfl⟩
 obtain ⟨L,hL⟩:∃ L:Int,((lens tb:Nat):Int)=L:=⟨_,rfl⟩
 have L0:0≤L∧L≤10000:=by rw [← hL];have:=LB.out;omega
 simp only [hbb] at MS CB ⊢
 simp only [hL] at SB ⊢
 clear hbb hL hb ht h5 hr
 have H:=zH (Far.refl w)
 obtain ⟨w1,hw_w1,B1,k1⟩:=nB w #[.int .i64 l,.int .i64 c,.int .i64 r,.int .i64 q,.int .i64 k] 28
 replace H:=zN k1 H B1
 replace NB:=zF k1 NB
 clear B1 k1
 go_enter Tryz.func12,Tryz.ntmps12
 go_wp2_with (refine lB 28 (.tmp 3) w.heap.size H.out.2 Tryz.underlying28 ?_)
 refine (MS.out _).mono ?_
 rintro e w2 ⟨rfl,hb⟩
 replace H:=zF hb H
 replace NB:=zF hb NB
 clear hb hw_w1
 cases b with
 | false =>
  go_wp2_with fail
  go_ret
  exact ⟨rfl,H.out.1.out⟩
 | true =>
  obtain ⟨-,⟨q0,q1⟩,⟨k0,k1⟩⟩:=CB.out rfl
  have g1:IntKind.i64.wrap (2*k)=2*k:=IntWalk.i64_in _ (by omega)
  have g2:IntKind.i64.wrap (q+2*k)=q+2*k:=IntWalk.i64_in _ (by omega)
  obtain ⟨P,hP⟩:∃ P,(q+2*k)*L=P:=⟨_,rfl⟩
  have pb:0≤P∧P≤960000:=by
   rw [← hP]
   have h1:=Int.mul_le_mul (a:=q+2*k) (b:=L) (c:=96) (d:=10000) (by omega) (by omega) (by omega) (by omega)
   have h2:=Int.mul_nonneg (a:=q+2*k) (b:=L) (by omega) (by omega)
   omega
  have g3:IntKind.i64.wrap ((q+2*k)*L)=P:=by rw [hP];exact IntWalk.i64_in _ (by omega)
  have HP:=zH hP
  have cc3:∀ z:Ext w2,z.1.cell? ⟨w.heap.size,3,none⟩=some (.int .i64 q):=fun z=>(H.out.2.ext z).cell 3
  have cc4:∀ z:Ext w2,z.1.cell? ⟨w.heap.size,4,none⟩=some (.int .i64 k):=fun z=>(H.out.2.ext z).cell 4
  have E1:=zH (fun z:Ext w2=>calls_ext z (SB.out z.1 (NB.out.1.ext z) (NB.out.2.fut z.2).all))
  clear hP pb
  go_upto_region 3 with fail
  refine wp_region_ext w2 (by kernel_rfl) (by kernel_rfl) (Below.refl _ _) ?_
  repeat (go_big_quiet_step ((with_reducible exact E1.out _)))
  refine wpQuiet_nil ?_
  rintro wa ⟨⟨_,hb⟩,rfl⟩
  replace H:=zF hb H
  clear hb cc3 cc4 E1
  go_wp2_with fail
  go_ret
  exact ⟨by rw [HP.out] <;> rfl,H.out.1.out⟩
theorem open_nil (w:World):Calls Tryz.prog 17 #[.pointer none] w fun e w'=>e=.returned (.int .i64 0)∧Below w.heap.size w w':=by
 have SA:=zH (statsNil_any w)
 have H:=zH (Far.refl w)
 go_enter Tryz.func17,Tryz.ntmps17
 go_wp2_with fail
 refine SA.out.mono ?_
 rintro e w2 ⟨rfl,hb⟩
 replace H:=zF hb H
 clear hb SA
 go_wp2_with (refine sF 111 (.tmp 3) (.tmp 5) #[.int .i64 0,.int .i64 0,.int .i64 0,.int .i64 0,.int .i64 0,.int .i64 0,.int .i64 0,.int .i64 0,.int .i64 0,.int .i64 0,.int .i64 0,.int .i64 0,.int .i64 0] ?_;intro w3 b3 k3;replace H:=zN k3 H b3;have cS:=fun i=>b3.out.cell i)
 go_ret
 exact ⟨rfl,H.out.1.out⟩
theorem open_new (ge ga gl gr gs gm:Nat) (w:World) (h:EngAt w ge ga gl gr gs gm 0 0 0):Calls Tryz.prog 17 #[.pointer (some ⟨ge,0,none⟩)] w fun e w'=>e=.returned (.int .i64 0)∧Below w.heap.size w w':=by
 have SA:=zH (stats0_any ge ga gl gr gs gm w h)
 have H:=zH (Far.refl w)
 go_enter Tryz.func17,Tryz.ntmps17
 go_wp2_with fail
 refine SA.out.mono ?_
 rintro e w2 ⟨rfl,hb⟩
 replace H:=zF hb H
 clear hb SA
 go_wp2_with (refine sF 111 (.tmp 3) (.tmp 5) #[.int .i64 0,.int .i64 0,.int .i64 0,.int .i64 0,.int .i64 0,.int .i64 0,.int .i64 0,.int .i64 0,.int .i64 0,.int .i64 0,.int .i64 0,.int .i64 0,.int .i64 0] ?_;intro w3 b3 k3;replace H:=zN k3 H b3;have cS:=fun i=>b3.out.cell i)
 go_ret
 exact ⟨rfl,H.out.1.out⟩
theorem empty_nil (a b:Int) (w:World):Calls Tryz.prog 15 #[.pointer none,.int .i64 a,.int .i64 b] w fun e w'=>e=.returned (.tuple #[.int .i64 0,.bool false])∧Below w.heap.size w w':=by
 go_enter Tryz.func15,Tryz.ntmps15
 go_wp2_with fail
 go_step3
 go_wp2_with fail
 rw [Exit.noGoto_ret]
 go_ret2
 exact ⟨rfl,Below.refl _ _⟩
theorem empty_new (ge ga gl gr gs gm:Nat) (a b:Int) (w:World) (h:EngAt w ge ga gl gr gs gm 0 0 0):Calls Tryz.prog 15 #[.pointer (some ⟨ge,0,none⟩),.int .i64 a,.int .i64 b] w fun e w'=>e=.returned (.tuple #[.int .i64 0,.bool true])∧Below w.heap.size w w':=by
 have HE:=zH h
 have ON:=zH (fun w h=>open_new ge ga gl gr gs gm w h)
 clear h
 go_enter Tryz.func15,Tryz.ntmps15
 go_wp2_with fail
 go_step3
 go_wp2_with fail
 go_step3
 go_wp2_with fail
 go_loopw [8] (fun i wr=>i=.int .i64 0∧wr=w) (fun _ _=>0)
 case atStart=>exact ⟨rfl,rfl⟩
 case round =>
  obtain ⟨rfl,rfl⟩:=hrel
  go_wp2_with fail
  refine (ON.out _ HE.out).mono ?_
  rintro e w2 ⟨rfl,hb⟩
  have H2:=zH (HE.out.later hb)
  have G2:=zH hb
  clear hb
  go_wp2_with fail
  refine (ON.out _ H2.out).mono ?_
  rintro e w3 ⟨rfl,hb⟩
  have G3:=zH (below_later hb G2.out)
  clear hb
  go_wp2_with fail
  rw [Exit.noGoto_ret]
  go_ret2
  exact ⟨rfl,G3.out⟩
end Go.Proofs.YtppcjcigekoipaaGreat
