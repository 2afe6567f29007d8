/-
  Three weights moved over rows (layer 15): wheel.Many where there are rows, at most 1024, as many as weights, all as long.
-/
import Derived.Test.YtjkmjpjknmghlaaGreatJ05
set_option linter.unusedVariables false
set_option linter.unusedSimpArgs false
namespace Go.Proofs.YtjkmjpjknmghlaaGreat
open Go.RowKit Go.ChangeShapes Go.WideShapes Fx
set_option maxRecDepth 100000
set_option maxHeartbeats 4000000
def tC4:Ty (Nat → Fx.Wd) where
 size:=4
 rep:=fun _ _ cs f=>cs=(c4 f).toList
 len:=by rintro w S cs x rfl;rfl
 keep:=fun h _=>h
 more:=fun h _=>h
 one:=by
  rintro w S cs x rfl u hu
  simp only [c4,List.mem_cons,List.not_mem_nil,or_false] at hu
  rcases hu with rfl|rfl|rfl|rfl <;> rfl
def tW3:Ty W3 where
 size:=3
 rep:=fun _ _ cs v=>cs=[.int .i8 v.1,.int .i8 v.2.1,.int .i8 v.2.2]∧In3 v
 len:=by rintro w S cs x ⟨rfl,-⟩;rfl
 keep:=fun h _=>h
 more:=fun h _=>h
 one:=by
  rintro w S cs x ⟨rfl,-⟩ u hu
  simp only [List.mem_cons,List.not_mem_nil,or_false] at hu
  rcases hu with rfl|rfl|rfl <;> rfl
theorem ei_c4:EI Tryz.prog 202 205 (.agg #[.complex .f64 0 0,.complex .f64 0 0,.complex .f64 0 0,.complex .f64 0 0]) 4 64:=⟨Tryz.underlying202,by kernel_rfl,rfl,by decide⟩
theorem ei_int64:EI Tryz.prog 168 2 (.int .i64 0) 1 8:=⟨Tryz.underlying168,by kernel_rfl,rfl,by decide⟩
theorem Sl.w3_at {w:World} {S:Nat → Prop} {A:Option Addr} {n cap:Nat} {ws:List W3} (h:Sl tW3 w S A n cap ws) (k:Nat) (hk:k < n) :
  ∃ b off a1 a2 a3,A=some ⟨b,off,none⟩∧S b∧ws.getD k (0,0,0)=(a1,a2,a3)∧In3 (a1,a2,a3)∧w.cell? ⟨b,off+k*3,none⟩=some (.int .i8 a1)∧w.cell? ⟨b,off+k*3+1,none⟩=some (.int .i8 a2)∧w.cell? ⟨b,off+k*3+2,none⟩=some (.int .i8 a3):=by
 obtain ⟨⟨a1,a2,a3⟩,b,off,vs,hx,hA,hS,-,⟨rfl,hr⟩,-,hc⟩:=h.cells k hk (by decide)
 have e:ws.getD k (0,0,0)=(a1,a2,a3):=by rw [List.getD_eq_getElem?_getD,hx];rfl
 exact ⟨b,off,a1,a2,a3,hA,hS,e,hr,hc 0 _ rfl,hc 1 _ rfl,hc 2 _ rfl⟩
theorem Old.row {α:Type} {t:Ty α} {w0 w w':World} {A:Option Addr} {n cap:Nat} {l:List α} {r:Option Nat} (h:Old w0 t w A n cap l) (hg:w.grownBy w' r) (hr:∀ k,r=some k → w0.heap.size≤k):Old w0 t w' A n cap l :=
 ⟨h.out.keep fun b hb=>hg.block b (Nat.lt_of_lt_of_le hb h.le) (fun e=>by have:=hr b e.symm;unfold blo at hb;omega),Nat.le_trans h.le hg.size⟩
theorem Far.row {w0 w w':World} {r:Option Nat} (h:Far w0 w) (hg:w.grownBy w' r) (hr:∀ k,r=some k → w0.heap.size≤k):Far w0 w':=⟨h.out.grown hg h.size hr⟩
def manyV (xs:List (List Int)) (ws:List W3) (m k:Nat):List Int:=(List.range (m - 2)).map fun p=>winV xs ws p k
theorem win_le {xs:List (List Int)} {ws:List W3} (h:RowsOk xs ws) (p:Nat):∀ k,(winV xs ws p k).natAbs≤k*12582912
 | 0=>by simp [winV]
 | k+1=>by
  have ih:=win_le h p k
  obtain ⟨t1,t2,t3⟩:=h.tap k
  have r0:=h.row k p
  have r1:=h.row k (p+1)
  have r2:=h.row k (p+2)
  rw [inK_i8] at t1 t2 t3
  rw [inK_i16] at r0 r1 r2
  have m0:=natAbs_mul_le (a:=(xs.getD k []).getD p 0) (b:=(ws.getD k (0,0,0)).1) (m:=32768) (n:=128) (by omega) (by omega)
  have m1:=natAbs_mul_le (a:=(xs.getD k []).getD (p+1) 0) (b:=(ws.getD k (0,0,0)).2.1) (m:=32768) (n:=128) (by omega) (by omega)
  have m2:=natAbs_mul_le (a:=(xs.getD k []).getD (p+2) 0) (b:=(ws.getD k (0,0,0)).2.2) (m:=32768) (n:=128) (by omega) (by omega)
  show (winV xs ws p k+_).natAbs≤_
  omega
theorem win_in {xs:List (List Int)} {ws:List W3} (h:RowsOk xs ws) (p k:Nat) (hk:k≤1024):InK .i64 (winV xs ws p k):=by
 have:=win_le h p k
 rw [inK_i64]
 omega
theorem range_two (f:Nat → Int) (a c:Nat) (hc:c=1 ∨ c=2):(List.range a).map f ++ [f a,f (a+1)].take c=(List.range (a+c)).map f:=by
 rcases hc with rfl|rfl <;> simp [List.range_succ]
theorem many_any (X:Option Addr) (n cx:Nat) (xs:List (List Int)) (T:Option Addr) (ct:Nat) (ws:List W3) (m:Nat) (w:World)
  (hx:Sl (tSlice (tInt .i16)) w (blo w.heap.size) X n cx xs) (ht:Sl tW3 w (blo w.heap.size) T n ct ws) (hn:1≤n) (hn2:n≤1024) (hm:∀ i,i < n → (xs.getD i []).length=m) (hm2:m≤1000000) :
  Calls Tryz.prog 144 #[.slice X n cx,.slice T n ct] w (RetSl (tInt .i64) w (manyV xs ws m n)):=by
 have AL:=zH (fun w' (hb:Below w.heap.size w w')=>alike_any X n cx m xs w' (hx.later hb (Nat.le_refl _)) hn hm)
 obtain ⟨bx,ox,A0,q0,rfl,hbx,hc0,hs0⟩:=hx.row_at 0 (by omega)
 rw [hm 0 (by omega),Nat.add_zero] at hc0
 rw [hm 0 (by omega)] at hs0
 obtain ⟨bt,ot,-,-,-,rfl,hbt,-,-,-⟩:=ht.w3_at 0 (by omega)
 have hmx:maxLen≤9223372036854775807:=by decide
 have p1:(n:Int)≤1024:=by omega
 have p2:(1:Int)≤n:=by omega
 have q1:=hx.cap_le
 have q2:=hx.max_le
 have q3:=ht.cap_le
 have q4:=ht.max_le
 have OX:=zH (Old.now hx)
 have OT:=zH (Old.now ht)
 have O0:=zH (Old.now hs0)
 have FR:=zH (Far.refl w)
 have HM:=zH hm
 clear hx ht hs0 hm
 go_enter Tryz.func144,Tryz.ntmps144
 go_wp2_with fail
 go_step3
 go_wp2_with fail
 refine (AL.out _ (Below.refl _ _)).mono ?_
 rintro e w1 ⟨rfl,rfl⟩
 go_wp2_with fail
 clear hc0
 go_loopw [6,36] (fun u i wr=>∃ k:Nat,k≤n∧i=.int .i64 k∧Far w1 wr∧Old w1 tW3 wr (some ⟨bt,ot,none⟩) n ct ws∧Old w1 (tSlice (tInt .i16)) wr (some ⟨bx,ox,none⟩) n cx xs∧Own tC4 wr (fun _=>False) w1.heap.size 205 u k ((ws.take k).map fun v=>ofW (t3 v))) (fun _ i _=>n - (intOf i).toNat)
 case atStart=>exact ⟨0,Nat.zero_le _,rfl,FR.out,OT.out,OX.out,Own.nil _ _ _ _ _⟩
 case round =>
  obtain ⟨k,hk,rfl,hf,hot,hox,hown⟩:=hrel
  clear FR OT OX
  have FR:=zH hf
  have OT:=zH hot
  have OX:=zH hox
  have ON:=zH hown
  clear hf hot hox hown
  by_cases hlt:k < n
  ·have p3:(k:Int) < n:=by omega
   obtain ⟨b',off',a1,a2,a3,e',-,hwk,⟨i1,i2,i3⟩,d1,d2,d3⟩:=OT.out.out.w3_at k hlt
   simp only [Option.some.injEq,Addr.mk.injEq,and_true] at e'
   obtain ⟨rfl,rfl⟩:=e'
   have TU:=zH (fun w=>wheelTurned_any a1 a2 a3 w i1 i2 i3)
   go_wp2_with fail
   refine (TU.out _).mono ?_
   rintro e w5 ⟨rfl,hb⟩
   have h5:Below wr.heap.size wr w5:=below_later hb ((Below.refl _ _).alloc (Nat.le_refl _) _)
   have H5:=zH h5
   clear hb d1 d2 d3
   replace FR:=zH (FR.out.fut h5)
   replace OT:=zH (OT.out.fut h5)
   replace OX:=zH (OX.out.fut h5)
   clear h5
   have ON5:=zH (ON.out.below H5.out (Nat.le_refl _) (fun _ h=>h.elim))
   obtain ⟨ff,hff⟩:∃ ff,ofW (w3Z a1 a2 a3)=ff:=⟨_,rfl⟩
   rw [hff]
   unfold c4 cv
   go_wp2_with (at_builtin;refine wpList_push (W:=w5) (cs:=c4 ff) (E:=205) (t:=tC4) (S:=fun _=>False) (base:=w1.heap.size) rfl (.tmp 40) (.tmp 43) rfl ei_c4 rfl ON5.out 1 rfl ff rfl (by unfold maxLen;omega) (by omega) (by have:=FR.out.size;omega) (fun _ h=>h.elim) ?_;intro v' wz ownz gz atz)
   have LT:=fun j h=>(ON.out.lt j h).1
   have ETK:((ws.take k).map fun v=>ofW (t3 v)) ++ [ff]=(ws.take (k+1)).map fun v=>ofW (t3 v):=by
    have hq:ws[k]?=some (a1,a2,a3):=by
     have hl:k < ws.length:=by rw [OT.out.out.n_eq];exact hlt
     rw [List.getElem?_eq_getElem hl]
     rw [List.getD_eq_getElem?_getD,List.getElem?_eq_getElem hl] at hwk
     simpa using hwk
    rw [take_snoc _ _ _ hq,List.map_append,← hff]
    rfl
   rw [ETK] at ownz
   exact ⟨⟨k+1,by omega,by go_num,FR.out.row gz LT,OT.out.row gz LT,OX.out.row gz LT,ownz⟩,by simp [intOf];omega⟩
  ·obtain rfl:n=k:=by omega
   have ETK:(ws.take n).map (fun v=>ofW (t3 v))=ws.map fun v=>ofW (t3 v):=by rw [List.take_of_length_le (by rw [OT.out.out.n_eq];omega)]
   obtain ⟨TA,tcap,rfl,hts⟩:=ON.out.sl (S':=bin w1.heap.size wr.heap.size) (by decide) (fun b h1 h2=>⟨h1,h2⟩) (fun _ h=>h.elim)
   rw [ETK] at hts
   have TS:=zH (show New w1 tC4 wr TA n tcap (ws.map fun v=>ofW (t3 v)) from ⟨hts⟩)
   clear hts ON ETK
   obtain ⟨b',off',A',c',e',-,hc,hs⟩:=OX.out.out.row_at 0 (by omega)
   simp only [Option.some.injEq,Addr.mk.injEq,and_true] at e'
   obtain ⟨rfl,rfl⟩:=e'
   rw [HM.out 0 (by omega),Nat.add_zero] at hc
   rw [HM.out 0 (by omega)] at hs
   have hs2:=hs.cap_le
   have hs3:=hs.max_le
   have RO:RowsOk xs ws:=by
    refine ⟨fun r i=>?_,fun r=>?_⟩
    ·by_cases hr:r < n
     ·obtain ⟨_,_,_,_,-,-,-,hs⟩:=OX.out.out.row_at r hr
      exact hs.allK i
     ·rw [show xs.getD r []=[] by rw [List.getD_eq_getElem?_getD,List.getElem?_eq_none (by rw [OX.out.out.n_eq];omega)];rfl]
      rw [inK_i16];simp
    ·by_cases hr:r < n
     ·obtain ⟨_,_,a1,a2,a3,-,-,e,hi,-⟩:=OT.out.out.w3_at r hr
      rw [e];exact hi
     ·rw [show ws.getD r (0,0,0)=(0,0,0) by rw [List.getD_eq_getElem?_getD,List.getElem?_eq_none (by rw [OT.out.out.n_eq];omega)];rfl]
      exact ⟨⟨by decide,by decide⟩,⟨by decide,by decide⟩,⟨by decide,by decide⟩⟩
   have R:=zH RO
   clear RO OT hlt
   go_wp2_with fail
   refine (wheelBlocks_any m _ (by omega) (by omega)).mono ?_
   rintro e w9 ⟨rfl,rfl⟩
   obtain ⟨NB,hNB⟩:∃ x:Nat,blocksV m=(x:Int):=⟨(blocksV m).toNat,by unfold blocksV;split <;> omega⟩
   have hNB2:(m < 3 → NB=0)∧(3≤m → NB=(m - 1) / 2):=by
    unfold blocksV at hNB
    split at hNB <;> omega
   rw [hNB]
   have HNB:=zH hNB2
   clear hNB2 hNB
   go_wp2_with fail
   clear hc hs hs2 hs3 p1 p2 
   have FN:=FR
   clear FR
   have FR:=zH (Far.refl w9)
   have OT:=zH (show Old w9 tC4 w9 TA n tcap (ws.map fun v=>ofW (t3 v)) from Old.now TS.out.old)
   have OX:=zH (show Old w9 (tSlice (tInt .i16)) w9 (some ⟨bx,ox,none⟩) n cx xs from Old.now OX.out.all)
   clear TS
   obtain ⟨bt2,ot2,hTA⟩:∃ b o,TA=some ⟨b,o,none⟩:=by
    obtain ⟨f,b,o,vs,-,h,-⟩:=OT.out.out.cells 0 (by omega) (by decide)
    exact ⟨b,o,h⟩
   subst hTA
   have q5:=OT.out.out.cap_le
   have q6:=OT.out.out.max_le
   go_loopw [5,51] (fun u i wr=>∃ k:Nat,k≤NB∧i=.int .i64 k∧Far w9 wr∧Old w9 tC4 wr (some ⟨bt2,ot2,none⟩) n tcap (ws.map fun v=>ofW (t3 v))∧Old w9 (tSlice (tInt .i16)) wr (some ⟨bx,ox,none⟩) n cx xs∧Own (tInt .i64) wr (fun _=>False) w9.heap.size 2 u (min (k*2) (m - 2)) ((List.range (min (k*2) (m - 2))).map fun p=>winV xs ws p n)) (fun _ i _=>NB - (intOf i).toNat)
   case atStart=>exact ⟨0,Nat.zero_le _,rfl,FR.out,OT.out,OX.out,by rw [Nat.zero_mul,Nat.zero_min];exact Own.nil _ _ _ _ _⟩
   case round =>
    obtain ⟨i,hi,rfl,hf,hot,hox,hown⟩:=hrel
    clear FR OT OX
    have FR:=zH hf
    have OT:=zH hot
    have OX:=zH hox
    have ON:=zH hown
    clear hf hot hox hown
    by_cases hli:i < NB
    ·have p4:(i:Int) < NB:=by omega
     have p5:(NB:Int)≤1000000:=by have:=HNB.out;omega
     have hsz:=FR.out.size
     go_wp2_with fail
     obtain ⟨wo,hwo⟩:∃ x,x=wr:=⟨_,rfl⟩
     rw [← hwo] at FR OT OX ON ⊢
     clear hwo hsz
     have LTU:=fun j h=>(ON.out.lt j h)
     have hgs:w9.heap.size≤wo.heap.size:=FR.out.size
     have FO:=zH (Far.refl wo)
     obtain ⟨w10,hw_w10,BS,k_w10⟩:=nB wo #[.complex .f64 0 0,.complex .f64 0 0,.complex .f64 0 0,.complex .f64 0 0] 205
     replace FR:=zH (FR.out.fut k_w10)
     replace OT:=zH (OT.out.fut k_w10)
     replace OX:=zH (OX.out.fut k_w10)
     clear k_w10
     rw [hw_w10]
     have k10:Below wo.heap.size wo w10:=by rw [← hw_w10];exact (Below.refl _ _).alloc (Nat.le_refl _) _
     replace ON:=zH (ON.out.below k10 (Nat.le_refl _) (fun _ h=>h.elim))
     clear hw_w10 k10 FO
     obtain ⟨gs,hgse⟩:∃ x,wo.heap.size=x:=⟨_,rfl⟩
     rw [hgse] at BS LTU hgs ⊢
     clear hgse
     replace BS:=zH (show Blk w10 gs 205 (c4 (accW xs ws (i*2) 0)) from BS.out)
     go_wp2_with fail
     go_loopw [56] (fun kk wr=>∃ k:Nat,k≤n∧kk=.int .i64 k∧Far w9 wr∧Old w9 tC4 wr (some ⟨bt2,ot2,none⟩) n tcap (ws.map fun v=>ofW (t3 v))∧Old w9 (tSlice (tInt .i16)) wr (some ⟨bx,ox,none⟩) n cx xs∧Own (tInt .i64) wr (fun _=>False) w9.heap.size 2 u5 (min (i*2) (m - 2)) ((List.range (min (i*2) (m - 2))).map fun p=>winV xs ws p n)∧Blk wr gs 205 (c4 (accW xs ws (i*2) k))) (fun kk _=>n - (intOf kk).toNat)
     case atStart=>exact ⟨0,Nat.zero_le _,rfl,FR.out,OT.out,OX.out,ON.out,BS.out⟩
     case round =>
      obtain ⟨k,hk,rfl,hf,hot,hox,hown,hbs⟩:=hrel
      clear FR OT OX ON BS
      have FR:=zH hf
      have OT:=zH hot
      have OX:=zH hox
      have ON:=zH hown
      have BS:=zH hbs
      clear hf hot hox hown hbs
      by_cases hlk:k < n
      ·have p6:(k:Int) < n:=by omega
       obtain ⟨b',off',A',c',e',-,hrc,hrs⟩:=OX.out.out.row_at k hlk
       simp only [Option.some.injEq,Addr.mk.injEq,and_true] at e'
       obtain ⟨rfl,rfl⟩:=e'
       rw [HM.out k hlk] at hrc hrs
       have HRS:=zH hrs
       clear hrs
       obtain ⟨fk,b',off',vs,hfk,e',hbt',-,hvs,-,htc⟩:=OT.out.out.cells k hlk (by decide)
       simp only [Option.some.injEq,Addr.mk.injEq,and_true] at e'
       obtain ⟨rfl,rfl⟩:=e'
       obtain rfl:vs=(c4 fk).toList:=hvs
       have HTC:=zH htc
       clear htc
       have hfk2:fk=ofW (t3 (ws.getD k (0,0,0))):=by
        rw [List.getElem?_map] at hfk
        rw [List.getD_eq_getElem?_getD]
        cases hq:ws[k]? with
        | none=>rw [hq] at hfk;cases hfk
        | some v=>rw [hq] at hfk;exact (Option.some.inj hfk).symm
       subst hfk2
       have hbt3:bt2 < w9.heap.size:=hbt'
       have HBT:=zH hbt3
       clear hbt' hbt3 hfk
       have AT:=zH (fun w' (hb:Below wr.drew.heap.size wr.drew w')=>wheelAt_any A' m c' (xs.getD k []) (i*2) w' (((HRS.out.more (blo_more OX.out.le)).keep (w':=wr.drew) (fun _ _=>rfl)).later hb (Nat.le_refl _)) (by have:=HNB.out;omega))
       rw [show ((i*2:Nat):Int)=IntKind.i64.wrap ((i:Int)*2) by rw [IntKind.wrap_i64];omega] at AT
       go_wp2_with fail
       refine wp_region_T (fun w'=>Below wr.drew.heap.size wr.drew w') 12 (by kernel_rfl) ?_ (fun hS=>?_)
       ·exact Below.refl _ _
       refine tkT 0 rfl (yieldsIf_load_blk (by kernel_rfl) 205 (.tmp 10) rfl gs 0 rfl 205 (c4 (accW xs ws (i*2) k)) (c4 (accW xs ws (i*2) k)) _ (fun w hw=>BS.out.draw.below hw BS.out.draw.lt) Tryz.underlying205 rfl (by show _=some 4;kernel_rfl) rfl) hS ?_
       try simp only [pX]
       refine kT 1 rfl hS ?_
       try simp only [pX]
       refine kT 2 rfl hS ?_
       try simp only [pX]
       refine kT 3 rfl hS ?_
       try simp only [pX]
       refine kT 6 rfl hS ?_
       try simp only [pX]
       refine kT 7 rfl hS ?_
       try simp only [pX]
       refine kT 8 rfl hS ?_
       try simp only [pX]
       refine tkT 9 rfl (yieldsIf_load_mid (by kernel_rfl) 205 (.tmp 69) rfl bt2 (ot2+k*4) rfl (c4 (ofW (t3 (ws.getD k (0,0,0))))).toList _ (fun w hw j v hv=>cell_below hw (by rw [Nat.add_assoc];exact HTC.out j v hv) (Nat.lt_of_lt_of_le HBT.out OT.out.le)) Tryz.underlying205 rfl (by show _=some 4;kernel_rfl)) hS ?_
       try simp only [pX]
       refine wpAnyT_one (i:=4) (by kernel_rfl) rfl rfl (fun K hK=>?_)
       go_simp
       refine (AT.out _ hS).mono ?_;rintro e w' ⟨rfl,hb⟩
       refine hK.out _ _ ?_ (fun hS=>?_)
       ·exact below_later hb hS
       clear hK K
       try simp only [pX]
       refine wpAnyT_one (i:=5) (by kernel_rfl) rfl rfl (fun K hK=>?_)
       go_simp
       refine (fourOf_any (at4 (xs.getD k []) (i*2)) 32768 _ (R.out.at4 k _) (by decide)).mono ?_;rintro e w' ⟨rfl,hb⟩
       refine hK.out _ _ ?_ (fun hS=>?_)
       ·exact below_later hb hS
       clear hK K
       try simp only [pX]
       refine wpAnyT_one (i:=10) (by kernel_rfl) rfl rfl (fun K hK=>?_)
       go_simp
       refine (fourTimes_any (ofW (at4 (xs.getD k []) (i*2))) (ofW (t3 (ws.getD k (0,0,0)))) _ (fun j hj=>(cross_ok R.out (i*2) k j).1)).mono ?_;rintro e w' ⟨rfl,hb⟩
       refine hK.out _ _ ?_ (fun hS=>?_)
       ·exact below_later hb hS
       clear hK K
       try simp only [pX]
       refine wpAnyT_one (i:=11) (by kernel_rfl) rfl rfl (fun K hK=>?_)
       go_simp
       refine (fourPlus_any (accW xs ws (i*2) k) (timesW (ofW (at4 (xs.getD k []) (i*2))) (ofW (t3 (ws.getD k (0,0,0))))) _ (fun j hj=>acc_add R.out (i*2) k (by omega) j)).mono ?_;rintro e w' ⟨rfl,hb⟩
       refine hK.out _ _ ?_ (fun hS=>?_)
       ·exact below_later hb hS
       clear hK K
       try simp only [pX]
       refine wpAnyT_tail _ _ rfl rfl (by kernel_rfl) ?_
       have HS:=zH hS
       clear hS hb
       go_wp2_with (refine wpList_store_all rfl 205 (.tmp 10) (.tmp 72) rfl gs (c4 (accW xs ws (i*2) (k+1))) rfl rfl _ _ (BS.out.draw.below HS.out BS.out.draw.lt) rfl (by show _=some 4;kernel_rfl) (c4_one _) ?_;intro w5 B5 g5)
       have NE:u5.ownBlock=none ∨ u5.ownBlock ≠ some gs:=by
        cases h:u5.ownBlock with
        | none=>exact .inl rfl
        | some j=>exact .inr fun e=>by have:=(LTU j h).2;have:=Option.some.inj e;omega
       exact ⟨⟨k+1,by omega,by go_num,(FR.out.draw.fut HS.out).away g5 hgs,(OT.out.draw.fut HS.out).away g5 hgs,(OX.out.draw.fut HS.out).away g5 hgs,((ON.out.heap (w':=wr.drew) rfl).below HS.out (Nat.le_refl _) (fun _ h=>h.elim)).kept g5 NE (fun _ h=>h.elim),B5⟩,by simp [intOf];omega⟩
      ·obtain rfl:n=k:=by omega
       have AO:=zH (fun j=>acc_ok R.out (i*2) n hn2 j)
       go_wp2_with (first|(refine wpList_load_blk rfl 205 (.tmp 10) rfl gs 0 rfl _ (c4 (accW xs ws (i*2) n)) (c4 (accW xs ws (i*2) n)) _ BS.out Tryz.underlying205 rfl (by show _=some 4;kernel_rfl) rfl ?_))
       refine (wheelBoth_any _ (accZ xs ws (i*2) n) (n*134217728) _ (fun j _=>(AO.out j).1) (fun j _=>(AO.out j).2) (by omega)).mono ?_
       rintro e w5 ⟨rfl,hb⟩
       have H5:=zH hb
       replace FR:=zH (FR.out.fut hb)
       replace OT:=zH (OT.out.fut hb)
       replace OX:=zH (OX.out.fut hb)
       clear hb
       replace ON:=zH (ON.out.below H5.out (Nat.le_refl _) (fun _ h=>h.elim))
       clear H5 AO BS
       obtain ⟨z1,z2⟩:=backZ_acc xs ws (i*2) n
       rw [z1,z2]
       clear z1 z2
       have i1:=win_in R.out (i*2) n hn2
       have i2:=win_in R.out (i*2+1) n hn2
       obtain ⟨x1,hx1⟩:∃ x,winV xs ws (i*2) n=x:=⟨_,rfl⟩
       obtain ⟨x2,hx2⟩:∃ x,winV xs ws (i*2+1) n=x:=⟨_,rfl⟩
       rw [hx1] at i1 ⊢
       rw [hx2] at i2 ⊢
       have m3:3≤m:=by have:=HNB.out;omega
       have m4:i*2+3≤m:=by have:=HNB.out;omega
       obtain ⟨b',off',A',c',e',-,hrc,hrs⟩:=OX.out.out.row_at 0 (by omega)
       simp only [Option.some.injEq,Addr.mk.injEq,and_true] at e'
       obtain ⟨rfl,rfl⟩:=e'
       rw [HM.out 0 (by omega),Nat.add_zero] at hrc
       clear hrs
       have m5:(m:Int)≤1000000:=by omega
       have m6:(i:Int)*2+3≤m:=by omega
       have LT2:bx < w5.heap.size:=World.block_lt_of_cell? w5 ⟨bx,ox,none⟩ hrc
       obtain ⟨cnt,hcnt⟩:∃ c:Nat,c=if i*2+4≤m then 2 else 1:=⟨_,rfl⟩
       have hc1:1≤cnt∧cnt≤2∧min (i*2) (m - 2)+cnt=min ((i+1)*2) (m - 2):=by
        split at hcnt <;> omega
       have SLI:∀ W:World,W=w5.alloc (.cells #[.int .i64 x1,.int .i64 x2] 212) → Sl (tInt .i64) W (fun _=>True) (some ⟨w5.heap.size,0,none⟩) cnt 2 ([x1,x2].take cnt):=by
        rintro W rfl
        have h0:Sl (tInt .i64) (w5.alloc (.cells #[.int .i64 x1,.int .i64 x2] 212)) (fun _=>True) (some ⟨w5.heap.size,0,none⟩) 2 2 [x1,x2] :=
         Sl.lit [x1,x2] (heap_now _ _ _ rfl) rfl (by intro x hx;simp at hx;rcases hx with rfl|rfl;exact i1;exact i2) trivial rfl rfl (by show 2≤maxLen;decide)
        exact h0.sub 0 cnt 0 2 rfl (by omega) (by omega) (Nat.le_refl _)
       have HCN:=zH hcnt
       have HC1:=zH hc1
       have SLH:=zH SLI
       have I12:=zH (And.intro hx1 hx2)
       clear hcnt hc1 SLI i1 i2 hx1 hx2
       by_cases h4:i*2+4≤m
       ·have hcn:cnt=2:=by rw [HCN.out,if_pos h4]
        subst hcn
        have h5:(2:Int)≤(m:Int) - 2 - (i:Int)*2:=by omega
        go_wp2_with (at_builtin;refine wpList_extend (k:=.i64) (S:=fun _=>True) (A:=some ⟨w5.heap.size,0,none⟩) (m:=2) (c:=2) rfl (.tmp 76) (.tmp 86) rfl ei_int64 rfl (ON.out.below ((Below.refl _ _).alloc (Nat.le_refl _) _) (Nat.le_refl _) (fun _ h=>h.elim)) rfl (SLH.out _ rfl) (by unfold maxLen;omega) (by omega) (by have:=FR.out.size;simp;omega) ?_;intro v' wz ownz gz atz)
        have LT9:=fun j h=>(LTU j h).1
        have KW:Below w5.heap.size w5 (w5.alloc (.cells #[.int .i64 x1,.int .i64 x2] 212)):=(Below.refl _ _).alloc (Nat.le_refl _) _
        have EL:=range_two (fun p=>winV xs ws p n) (min (i*2) (m - 2)) 2 (by omega)
        rw [show min (i*2) (m - 2)=i*2 by omega] at EL
        simp only [I12.out.1,I12.out.2] at EL
        have EM:=HC1.out.2.2
        rw [show min (i*2) (m - 2)=i*2 by omega] at ownz EM
        rw [EL,EM] at ownz
        exact ⟨⟨i+1,by omega,by go_num,(FR.out.fut KW).row gz LT9,(OT.out.fut KW).row gz LT9,(OX.out.fut KW).row gz LT9,ownz⟩,by simp [intOf];omega⟩
       ·have hcn:cnt=1:=by rw [HCN.out,if_neg h4]
        subst hcn
        have h5:¬ (2:Int)≤(m:Int) - 2 - (i:Int)*2:=by omega
        have h6:(m:Int) - 2 - (i:Int)*2=1:=by omega
        go_wp2_with (at_builtin;refine wpList_extend (k:=.i64) (S:=fun _=>True) (A:=some ⟨w5.heap.size,0,none⟩) (m:=1) (c:=2) rfl (.tmp 76) (.tmp 86) rfl ei_int64 rfl (ON.out.below ((Below.refl _ _).alloc (Nat.le_refl _) _) (Nat.le_refl _) (fun _ h=>h.elim)) rfl (SLH.out _ rfl) (by unfold maxLen;omega) (by omega) (by have:=FR.out.size;simp;omega) ?_;intro v' wz ownz gz atz)
        have LT9:=fun j h=>(LTU j h).1
        have KW:Below w5.heap.size w5 (w5.alloc (.cells #[.int .i64 x1,.int .i64 x2] 212)):=(Below.refl _ _).alloc (Nat.le_refl _) _
        have EL:=range_two (fun p=>winV xs ws p n) (min (i*2) (m - 2)) 1 (by omega)
        rw [show min (i*2) (m - 2)=i*2 by omega] at EL
        simp only [I12.out.1,I12.out.2] at EL
        have EM:=HC1.out.2.2
        rw [show min (i*2) (m - 2)=i*2 by omega] at ownz EM
        rw [EL,EM] at ownz
        exact ⟨⟨i+1,by omega,by go_num,(FR.out.fut KW).row gz LT9,(OT.out.fut KW).row gz LT9,(OX.out.fut KW).row gz LT9,ownz⟩,by simp [intOf];omega⟩
    ·obtain rfl:NB=i:=by omega
     have hmn:min (NB*2) (m - 2)=m - 2:=by have:=HNB.out;omega
     have ON:=zH (show Own (tInt .i64) wr (fun _=>False) w9.heap.size 2 u5 (m - 2) (manyV xs ws m n) by have:=ON.out;rw [hmn] at this;exact this)
     obtain ⟨OA,ocap,rfl,hos⟩:=ON.out.sl (S':=bin w1.heap.size wr.heap.size) (by decide) (fun b h1 h2=>⟨Nat.le_trans FN.out.size h1,h2⟩) (fun _ h=>h.elim)
     have HOS:=zH hos
     have FE:=zH (FN.out.trans FR.out)
     clear hos ON
     go_wp2_with fail
     go_step3
     go_wp2_with fail
     rw [Exit.noGoto_ret]
     go_ret
     exact ⟨OA,m - 2,ocap,rfl,HOS.out,FE.out.out⟩
end Go.Proofs.YtjkmjpjknmghlaaGreat
