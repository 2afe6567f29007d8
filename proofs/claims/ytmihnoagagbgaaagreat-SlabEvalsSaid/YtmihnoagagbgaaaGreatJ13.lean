/-
  Three weights moved over rows (layer 15): wheel.Many where there are rows, at most 1024, as many as weights, all as long.
-/
import Derived.Test.YtmihnoagagbgaaaGreatJ04
set_option linter.unusedVariables false
set_option linter.unusedSimpArgs false
set_option maxRecDepth 100000
set_option maxHeartbeats 16000000
namespace Go.Proofs.YtmihnoagagbgaaaGreat
open Go.RowKit Go.ChangeShapes Go.WideShapes Fx Tryz
set_option maxRecDepth 100000
set_option maxHeartbeats 16000000
def tC4:Ty (Nat → Fx.Wd) where
 size:=4
 rep:=fun _ _ cs f=>cs=(c4 f).toList
 len:=by rintro w S cs x rfl;rfl
 keep:=fun h _=>h
 more:=fun h _=>h
 one:=by
  rintro w S cs x rfl u hu
  simp only [c4,List.mem_cons,List.not_mem_nil,or_false] at hu
  rcases hu with rfl|rfl|rfl|rfl <;> rfl
def tW3:Ty W3 where
 size:=3
 rep:=fun _ _ cs v=>cs=[.int .i8 v.1,.int .i8 v.2.1,.int .i8 v.2.2]∧In3 v
 len:=by rintro w S cs x ⟨rfl,-⟩;rfl
 keep:=fun h _=>h
 more:=fun h _=>h
 one:=by
  rintro w S cs x ⟨rfl,-⟩ u hu
  simp only [List.mem_cons,List.not_mem_nil,or_false] at hu
  rcases hu with rfl|rfl|rfl <;> rfl
theorem ug:EI prog 236 239 (.agg #[.complex .f64 0 0,.complex .f64 0 0,.complex .f64 0 0,.complex .f64 0 0]) 4 64:=⟨underlying236,by kernel_rfl,rfl,by decide⟩
theorem lQ:EI prog 193 2 (.int .i64 0) 1 8:=⟨underlying193,by kernel_rfl,rfl,by decide⟩
theorem Sl.w3_at {w:World} {S:Nat → Prop} {A:QA} {n cap:Nat} {ws:List W3} (h:Sl tW3 w S A n cap ws) (k:Nat) (hk:k < n) :
  ∃ b off a1 a2 a3,A=some ⟨b,off,none⟩∧S b∧ws.getD k (0,0,0)=(a1,a2,a3)∧In3 (a1,a2,a3)∧w.cell? ⟨b,off+k*3,none⟩=some (.int .i8 a1)∧w.cell? ⟨b,off+k*3+1,none⟩=some (.int .i8 a2)∧w.cell? ⟨b,off+k*3+2,none⟩=some (.int .i8 a3):=by
 obtain ⟨⟨a1,a2,a3⟩,b,off,vs,hx,hA,hS,-,⟨rfl,hr⟩,-,hc⟩:=h.cells k hk dM
 have e:ws.getD k (0,0,0)=(a1,a2,a3):=by rw [gD,hx];rfl
 exact ⟨b,off,a1,a2,a3,hA,hS,e,hr,hc 0 _ rfl,hc 1 _ rfl,hc 2 _ rfl⟩
theorem Old.row {α:Type} {t:Ty α} {w0 w w':World} {A:QA} {n cap:Nat} {l:List α} {r:Option Nat} (h:Old w0 t w A n cap l) (hg:w.grownBy w' r) (hr:∀ k,r=some k → w0.heap.size≤k):Old w0 t w' A n cap l :=
 ⟨h.out.keep fun b hb=>hg.block b (Nat.lt_of_lt_of_le hb h.le) (fun e=>by have:=hr b e.symm;unfold blo at hb;omega),lT h.le hg.size⟩
theorem Far.row {w0 w w':World} {r:Option Nat} (h:Far w0 w) (hg:w.grownBy w' r) (hr:∀ k,r=some k → w0.heap.size≤k):Far w0 w':=⟨h.out.grown hg h.size hr⟩
def iG (xs:List (List Int)) (ws:List W3) (m k:Nat):List Int:=(List.range (m - 2)).map fun p=>dh xs ws p k
theorem rU {xs:List (List Int)} {ws:List W3} (h:dY xs ws) (p:Nat):∀ k,(dh xs ws p k).natAbs≤k*12582912
 | 0=>by simp [dh]
 | k+1=>by
  have ih:=rU h p k
  obtain ⟨t1,t2,t3⟩:=h.tap k
  have r0:=h.row k p
  have r1:=h.row k (p+1)
  have r2:=h.row k (p+2)
  rw [aT] at t1 t2 t3
  rw [iF] at r0 r1 r2
  have m0:=natAbs_mul_le (a:=(xs.getD k []).getD p 0) (b:=(ws.getD k (0,0,0)).1) (m:=32768) (n:=128) oM oM
  have m1:=natAbs_mul_le (a:=(xs.getD k []).getD (p+1) 0) (b:=(ws.getD k (0,0,0)).2.1) (m:=32768) (n:=128) oM oM
  have m2:=natAbs_mul_le (a:=(xs.getD k []).getD (p+2) 0) (b:=(ws.getD k (0,0,0)).2.2) (m:=32768) (n:=128) oM oM
  show (dh xs ws p k+_).natAbs≤_
  omega
theorem uy {xs:List (List Int)} {ws:List W3} (h:dY xs ws) (p k:Nat) (hk:k≤1024):InK .i64 (dh xs ws p k):=by
 have:=rU h p k
 rw [ah]
 omega
theorem ks (f:Nat → Int) (a c:Nat) (hc:c=1 ∨ c=2):(List.range a).map f ++ [f a,f (a+1)].take c=(List.range (a+c)).map f:=by
 rcases hc with rfl|rfl <;> simp [List.range_succ]
theorem st (X:QA) (n cx:Nat) (xs:List (List Int)) (T:QA) (ct:Nat) (ws:List W3) (m:Nat) (w:World)
  (hx:Sl (tSlice (aa .i16)) w (blo w) X n cx xs) (ht:Sl tW3 w (blo w) T n ct ws) (hn:1≤n) (hn2:n≤1024) (hm:∀ i,i < n → (xs.getD i []).length=m) (hm2:m≤1000000) :
  Calls prog 170 #[.slice X n cx,.slice T n ct] w (RetSl (aa .i64) w (iG xs ws m n)):=by
 have AL:=zH (fun w' (hb:Below w w w')=>qw X n cx m xs w' (hx.later hb (lR _)) hn hm)
 obtain ⟨bx,ox,A0,q0,rfl,hbx,hc0,hs0⟩:=hx.row_at 0 oM
 rw [hm 0 oM,Nat.add_zero] at hc0
 rw [hm 0 oM] at hs0
 obtain ⟨bt,ot,-,-,-,rfl,hbt,-,-,-⟩:=ht.w3_at 0 oM
 have hmx:maxLen≤9223372036854775807:=by decide
 have p1:(n:Int)≤1024:=oM
 have p2:(1:Int)≤n:=oM
 have q1:=hx.cap_le
 have q2:=hx.max_le
 have q3:=ht.cap_le
 have q4:=ht.max_le
 have OX:=zH (Old.now hx)
 have OT:=zH (Old.now ht)
 have O0:=zH (Old.now hs0)
 have FR:=zW w
 have HM:=zH hm
 clear hx ht hs0 hm
 go_in
 go_wp2_with fail
 go_step3
 go_wp2_with fail
 refine (AL.o _ (qB _ _)).mono ?_
 rintro e w1 ⟨rfl,rfl⟩
 go_wp2_with fail
 clear hc0
 go_loopw [6,36] (fun u i wr=>∃ k:Nat,k≤n∧i=.int .i64 k∧Far w1 wr∧Old w1 tW3 wr (some ⟨bt,ot,none⟩) n ct ws∧Old w1 (tSlice (aa .i16)) wr (some ⟨bx,ox,none⟩) n cx xs∧Own tC4 wr (fun _=>False) w1.heap.size 239 u k ((ws.take k).map fun v=>ofW (t3 v))) (fun _ i _=>n - (intOf i).toNat)
 case atStart=>exact ⟨0,zl _,rfl,FR.o,OT.o,OX.o,Own.nil _ _ _ _ _⟩
 case round =>
  obtain ⟨k,hk,rfl,hf,hot,hox,hown⟩:=hrel
  clear FR OT OX
  have FR:=zH hf
  have OT:=zH hot
  have OX:=zH hox
  have ON:=zH hown
  clear hf hot hox hown
  by_cases hlt:k < n
  ·have p3:(k:Int) < n:=oM
   obtain ⟨b',off',a1,a2,a3,e',-,hwk,⟨i1,i2,i3⟩,d1,d2,d3⟩:=OT.o.out.w3_at k hlt
   simp only [Option.some.injEq,Addr.mk.injEq,and_true] at e'
   obtain ⟨rfl,rfl⟩:=e'
   have TU:=zH (fun w=>jO a1 a2 a3 w i1 i2 i3)
   go_wp2_with fail
   refine qM (TU.o _) fun w5 hb=>?_
   have h5:Below wr wr w5:=ag hb ((qB _ _).alloc (lR _) _)
   have H5:=zH h5
   clear hb d1 d2 d3
   obtain ⟨FR,OT,OX⟩:=uz3 h5 FR OT OX
   clear h5
   have ON5:=zH (ON.o.below H5.o (lR _) (fun _ h=>h.elim))
   obtain ⟨ff,hff⟩:∃ ff,ofW (w3Z a1 a2 a3)=ff:=⟨_,rfl⟩
   rw [hff]
   unfold c4 cv
   go_wp2_with (at_builtin;refine wpList_push (W:=w5) (cs:=c4 ff) (E:=239) (t:=tC4) (S:=fun _=>False) (base:=w1.heap.size) rfl (.tmp 40) (.tmp 43) rfl ug rfl ON5.o 1 rfl ff rfl (by unfold maxLen;omega) oM (by have:=FR.o.size;omega) (fun _ h=>h.elim) ?_;intro v' wz ownz gz atz)
   have LT:=fun j h=>(ON.o.lt j h).1
   have ETK:((ws.take k).map fun v=>ofW (t3 v)) ++ [ff]=(ws.take (k+1)).map fun v=>ofW (t3 v):=by
    have hq:ws[k]?=some (a1,a2,a3):=by
     have hl:k < ws.length:=by rw [OT.o.out.n_eq];exact hlt
     rw [List.getElem?_eq_getElem hl]
     rw [gD,List.getElem?_eq_getElem hl] at hwk
     simpa using hwk
    rw [kF _ _ _ hq,List.map_append,← hff]
    rfl
   rw [ETK] at ownz
   exact ⟨⟨k+1,by omega,by go_num,FR.o.row gz LT,OT.o.row gz LT,OX.o.row gz LT,ownz⟩,by simp [intOf];omega⟩
  ·obtain rfl:n=k:=oM
   have ETK:(ws.take n).map (fun v=>ofW (t3 v))=ws.map fun v=>ofW (t3 v):=by rw [List.take_of_length_le (by rw [OT.o.out.n_eq];omega)]
   obtain ⟨TA,tcap,rfl,hts⟩:=ON.o.sl (S':=bin w1 wr) dM (fun b h1 h2=>⟨h1,h2⟩) (fun _ h=>h.elim)
   rw [ETK] at hts
   have TS:=zH (show New w1 tC4 wr TA n tcap (ws.map fun v=>ofW (t3 v)) from ⟨hts⟩)
   clear hts ON ETK
   obtain ⟨b',off',A',c',e',-,hc,hs⟩:=OX.o.out.row_at 0 oM
   simp only [Option.some.injEq,Addr.mk.injEq,and_true] at e'
   obtain ⟨rfl,rfl⟩:=e'
   rw [HM.o 0 oM,Nat.add_zero] at hc
   rw [HM.o 0 oM] at hs
   have hs2:=hs.cap_le
   have hs3:=hs.max_le
   have RO:dY xs ws:=by
    refine ⟨fun r i=>?_,fun r=>?_⟩
    ·by_cases hr:r < n
     ·obtain ⟨_,_,_,_,-,-,-,hs⟩:=OX.o.out.row_at r hr
      exact hs.allK i
     ·rw [show xs.getD r []=[] by rw [gD,List.getElem?_eq_none (by rw [OX.o.out.n_eq];omega)];rfl]
      rw [iF];simp
    ·by_cases hr:r < n
     ·obtain ⟨_,_,a1,a2,a3,-,-,e,hi,-⟩:=OT.o.out.w3_at r hr
      rw [e];exact hi
     ·rw [show ws.getD r (0,0,0)=(0,0,0) by rw [gD,List.getElem?_eq_none (by rw [OT.o.out.n_eq];omega)];rfl]
      exact ⟨⟨by decide,by decide⟩,⟨by decide,by decide⟩,⟨by decide,by decide⟩⟩
   have R:=zH RO
   clear RO OT hlt
   go_wp2_with fail
   refine (jN m _ oM oM).mono ?_
   rintro e w9 ⟨rfl,rfl⟩
   obtain ⟨NB,hNB⟩:∃ x:Nat,es m=(x:Int):=⟨(es m).toNat,by unfold es;split <;> omega⟩
   have hNB2:(m < 3 → NB=0)∧(3≤m → NB=(m - 1) / 2):=by
    unfold es at hNB
    split at hNB <;> omega
   rw [hNB]
   have HNB:=zH hNB2
   clear hNB2 hNB
   go_wp2_with fail
   clear hc hs hs2 hs3 p1 p2 
   have FN:=FR
   clear FR
   have FR:=zW w9
   have OT:=zH (show Old w9 tC4 w9 TA n tcap (ws.map fun v=>ofW (t3 v)) from Old.now TS.o.old)
   have OX:=zH (show Old w9 (tSlice (aa .i16)) w9 (some ⟨bx,ox,none⟩) n cx xs from Old.now OX.o.all)
   clear TS
   obtain ⟨bt2,ot2,hTA⟩:∃ b o,TA=some ⟨b,o,none⟩:=by
    obtain ⟨f,b,o,vs,-,h,-⟩:=OT.o.out.cells 0 oM dM
    exact ⟨b,o,h⟩
   subst hTA
   have q5:=OT.o.out.cap_le
   have q6:=OT.o.out.max_le
   go_loopw [5,51] (fun u i wr=>∃ k:Nat,k≤NB∧i=.int .i64 k∧Far w9 wr∧Old w9 tC4 wr (some ⟨bt2,ot2,none⟩) n tcap (ws.map fun v=>ofW (t3 v))∧Old w9 (tSlice (aa .i16)) wr (some ⟨bx,ox,none⟩) n cx xs∧Own (aa .i64) wr (fun _=>False) w9.heap.size 2 u (min (k*2) (m - 2)) ((List.range (min (k*2) (m - 2))).map fun p=>dh xs ws p n)) (fun _ i _=>NB - (intOf i).toNat)
   case atStart=>exact ⟨0,zl _,rfl,FR.o,OT.o,OX.o,by rw [Nat.zero_mul,Nat.zero_min];exact Own.nil _ _ _ _ _⟩
   case round =>
    obtain ⟨i,hi,rfl,hf,hot,hox,hown⟩:=hrel
    clear FR OT OX
    have FR:=zH hf
    have OT:=zH hot
    have OX:=zH hox
    have ON:=zH hown
    clear hf hot hox hown
    by_cases hli:i < NB
    ·have p4:(i:Int) < NB:=oM
     have p5:(NB:Int)≤1000000:=by have:=HNB.o;omega
     have hsz:=FR.o.size
     go_wp2_with fail
     obtain ⟨wo,hwo⟩:∃ x,x=wr:=⟨_,rfl⟩
     rw [← hwo] at FR OT OX ON ⊢
     clear hwo hsz
     have LTU:=fun j h=>(ON.o.lt j h)
     have hgs:w9.heap.size≤wo.heap.size:=FR.o.size
     have FO:=zW wo
     obtain ⟨w10,yw10,BS,yk10⟩:=nB wo #[.complex .f64 0 0,.complex .f64 0 0,.complex .f64 0 0,.complex .f64 0 0] 239
     obtain ⟨FR,OT,OX⟩:=uz3 yk10 FR OT OX
     clear yk10
     rw [yw10]
     have k10:Below wo wo w10:=by rw [← yw10];exact (qB _ _).alloc (lR _) _
     replace ON:=zH (ON.o.below k10 (lR _) (fun _ h=>h.elim))
     clear yw10 k10 FO
     obtain ⟨gs,hgse⟩:∃ x,wo.heap.size=x:=⟨_,rfl⟩
     rw [hgse] at BS LTU hgs ⊢
     clear hgse
     replace BS:=zH (show Blk w10 gs 239 (c4 (eA xs ws (i*2) 0)) from BS.o)
     go_wp2
     go_loopw [56] (fun kk wr=>∃ k:Nat,k≤n∧kk=.int .i64 k∧Far w9 wr∧Old w9 tC4 wr (some ⟨bt2,ot2,none⟩) n tcap (ws.map fun v=>ofW (t3 v))∧Old w9 (tSlice (aa .i16)) wr (some ⟨bx,ox,none⟩) n cx xs∧Own (aa .i64) wr (fun _=>False) w9.heap.size 2 u5 (min (i*2) (m - 2)) ((List.range (min (i*2) (m - 2))).map fun p=>dh xs ws p n)∧Blk wr gs 239 (c4 (eA xs ws (i*2) k))) (fun kk _=>n - (intOf kk).toNat)
     case atStart=>exact ⟨0,zl _,rfl,FR.o,OT.o,OX.o,ON.o,BS.o⟩
     case round =>
      obtain ⟨k,hk,rfl,hf,hot,hox,hown,hbs⟩:=hrel
      clear FR OT OX ON BS
      have FR:=zH hf
      have OT:=zH hot
      have OX:=zH hox
      have ON:=zH hown
      have BS:=zH hbs
      clear hf hot hox hown hbs
      by_cases hlk:k < n
      ·have p6:(k:Int) < n:=oM
       obtain ⟨b',off',A',c',e',-,hrc,hrs⟩:=OX.o.out.row_at k hlk
       simp only [Option.some.injEq,Addr.mk.injEq,and_true] at e'
       obtain ⟨rfl,rfl⟩:=e'
       rw [HM.o k hlk] at hrc hrs
       have HRS:=zH hrs
       clear hrs
       obtain ⟨fk,b',off',vs,hfk,e',hbt',-,hvs,-,htc⟩:=OT.o.out.cells k hlk dM
       simp only [Option.some.injEq,Addr.mk.injEq,and_true] at e'
       obtain ⟨rfl,rfl⟩:=e'
       obtain rfl:vs=(c4 fk).toList:=hvs
       have HTC:=zH htc
       clear htc
       have hfk2:fk=ofW (t3 (ws.getD k (0,0,0))):=by
        rw [List.getElem?_map] at hfk
        rw [gD]
        cases hq:ws[k]? with
        | none=>rw [hq] at hfk;cases hfk
        | some v=>rw [hq] at hfk;exact (sI hfk).symm
       subst hfk2
       have hbt3:bt2 < w9.heap.size:=hbt'
       have HBT:=zH hbt3
       clear hbt' hbt3 hfk
       have AT:=zH (fun w' (hb:Below wr.drew.heap.size wr.drew w')=>uB A' m c' (xs.getD k []) (i*2) w' (((HRS.o.more (dJ OX.o.le)).keep (w':=wr.drew) (fun _ _=>rfl)).later hb (lR _)) (by have:=HNB.o;omega))
       rw [show ((i*2:Nat):Int)=IntKind.i64.wrap ((i:Int)*2) by rw [IntKind.wrap_i64];omega] at AT
       go_wp2_with fail
       refine aJ (fun w'=>Below wr.drew.heap.size wr.drew w') 12 kM ?_ (fun hS=>?_)
       ·exact qB _ _
       refine tkT 0 rfl (yieldsIf_load_blk kM 239 (.tmp 10) rfl gs 0 rfl 239 (c4 (eA xs ws (i*2) k)) (c4 (eA xs ws (i*2) k)) _ (fun w hw=>BS.o.draw.below hw BS.o.draw.lt) underlying239 rfl (by show _=some 4;kernel_rfl) rfl) hS ?_
       try simp only [pX]
       refine kT' 1 hS ?_
       refine kT' 2 hS ?_
       refine kT' 3 hS ?_
       refine kT' 6 hS ?_
       refine kT' 7 hS ?_
       refine kT' 8 hS ?_
       refine tkT 9 rfl (yieldsIf_load_mid kM 239 (.tmp 69) rfl bt2 (ot2+k*4) rfl (c4 (ofW (t3 (ws.getD k (0,0,0))))).toList _ (fun w hw j v hv=>eE hw (by rw [Nat.add_assoc];exact HTC.o j v hv) (Nat.lt_of_lt_of_le HBT.o OT.o.le)) underlying239 rfl (by show _=some 4;kernel_rfl)) hS ?_
       try simp only [pX]
       refine rT 4 (fun K hK=>?_)
       go_simp
       refine qM (AT.o _ hS) fun w' hb=>?_
       refine xK hK (zR hb hS) fun hS=>?_
       clear hK K
       refine rT 5 (fun K hK=>?_)
       go_simp
       refine qM (jp (at4 (xs.getD k []) (i*2)) 32768 _ (R.o.at4 k _) dM) fun w' hb=>?_
       refine xK hK (zR hb hS) fun hS=>?_
       clear hK K
       refine rT 10 (fun K hK=>?_)
       go_simp
       refine qM (kL (ofW (at4 (xs.getD k []) (i*2))) (ofW (t3 (ws.getD k (0,0,0)))) _ (fun j hj=>(iZ R.o (i*2) k j).1)) fun w' hb=>?_
       refine xK hK (zR hb hS) fun hS=>?_
       clear hK K
       refine rT 11 (fun K hK=>?_)
       go_simp
       refine (lY (eA xs ws (i*2) k) (timesW (ofW (at4 (xs.getD k []) (i*2))) (ofW (t3 (ws.getD k (0,0,0))))) _ (fun j hj=>ta R.o (i*2) k oM j)).mono ?_;rintro e w' ⟨rfl,hb⟩
       refine xK hK (zR hb hS) fun hS=>?_
       clear hK K
       refine wpAnyT_tail _ _ rfl rfl kM ?_
       have HS:=zH hS
       clear hS hb
       go_wp2_with (refine wpList_store_all rfl 239 (.tmp 10) (.tmp 72) rfl gs (c4 (eA xs ws (i*2) (k+1))) rfl rfl _ _ (BS.o.draw.below HS.o BS.o.draw.lt) rfl (by show _=some 4;kernel_rfl) (gC _) ?_;intro w5 B5 g5)
       have NE:u5.ownBlock=none ∨ u5.ownBlock ≠ some gs:=by
        cases h:u5.ownBlock with
        | none=>exact .inl rfl
        | some j=>exact .inr fun e=>by have:=(LTU j h).2;have:=sI e;omega
       exact ⟨⟨k+1,by omega,by go_num,(FR.o.draw.fut HS.o).away g5 hgs,(OT.o.draw.fut HS.o).away g5 hgs,(OX.o.draw.fut HS.o).away g5 hgs,((ON.o.heap (w':=wr.drew) rfl).below HS.o (lR _) (fun _ h=>h.elim)).kept g5 NE (fun _ h=>h.elim),B5⟩,by simp [intOf];omega⟩
      ·obtain rfl:n=k:=oM
       have AO:=zH (fun j=>lD R.o (i*2) n hn2 j)
       go_wp2_with (first|(refine wpList_load_blk rfl 239 (.tmp 10) rfl gs 0 rfl _ (c4 (eA xs ws (i*2) n)) (c4 (eA xs ws (i*2) n)) _ BS.o underlying239 rfl (by show _=some 4;kernel_rfl) rfl ?_))
       refine qM (ll _ (eB xs ws (i*2) n) (n*134217728) _ (fun j _=>(AO.o j).1) (fun j _=>(AO.o j).2) oM) fun w5 hb=>?_
       have H5:=zH hb
       obtain ⟨FR,OT,OX⟩:=uz3 hb FR OT OX
       clear hb
       replace ON:=zH (ON.o.below H5.o (lR _) (fun _ h=>h.elim))
       clear H5 AO BS
       obtain ⟨z1,z2⟩:=uv xs ws (i*2) n
       rw [z1,z2]
       clear z1 z2
       have i1:=uy R.o (i*2) n hn2
       have i2:=uy R.o (i*2+1) n hn2
       obtain ⟨x1,hx1⟩:∃ x,dh xs ws (i*2) n=x:=⟨_,rfl⟩
       obtain ⟨x2,hx2⟩:∃ x,dh xs ws (i*2+1) n=x:=⟨_,rfl⟩
       rw [hx1] at i1 ⊢
       rw [hx2] at i2 ⊢
       have m3:3≤m:=by have:=HNB.o;omega
       have m4:i*2+3≤m:=by have:=HNB.o;omega
       obtain ⟨b',off',A',c',e',-,hrc,hrs⟩:=OX.o.out.row_at 0 oM
       simp only [Option.some.injEq,Addr.mk.injEq,and_true] at e'
       obtain ⟨rfl,rfl⟩:=e'
       rw [HM.o 0 oM,Nat.add_zero] at hrc
       clear hrs
       have m5:(m:Int)≤1000000:=oM
       have m6:(i:Int)*2+3≤m:=oM
       have LT2:bx < w5.heap.size:=World.block_lt_of_cell? w5 ⟨bx,ox,none⟩ hrc
       obtain ⟨cnt,hcnt⟩:∃ c:Nat,c=if i*2+4≤m then 2 else 1:=⟨_,rfl⟩
       have hc1:1≤cnt∧cnt≤2∧min (i*2) (m - 2)+cnt=min ((i+1)*2) (m - 2):=by
        split at hcnt <;> omega
       have SLI:∀ W:World,W=w5.alloc (.cells #[.int .i64 x1,.int .i64 x2] 246) → Sl (aa .i64) W (fun _=>True) (some ⟨w5.heap.size,0,none⟩) cnt 2 ([x1,x2].take cnt):=by
        rintro W rfl
        have h0:Sl (aa .i64) (w5.alloc (.cells #[.int .i64 x1,.int .i64 x2] 246)) (fun _=>True) (some ⟨w5.heap.size,0,none⟩) 2 2 [x1,x2] :=
         Sl.lit [x1,x2] (eX _ _ _ rfl) rfl (by intro x hx;simp at hx;rcases hx with rfl|rfl;exact i1;exact i2) trivial rfl rfl (by show 2≤maxLen;decide)
        exact h0.sub 0 cnt 0 2 rfl oM oM (lR _)
       have HCN:=zH hcnt
       have HC1:=zH hc1
       have SLH:=zH SLI
       have I12:=zH (And.intro hx1 hx2)
       clear hcnt hc1 SLI i1 i2 hx1 hx2
       by_cases h4:i*2+4≤m
       ·have hcn:cnt=2:=by rw [HCN.o,if_pos h4]
        subst hcn
        have h5:(2:Int)≤(m:Int) - 2 - (i:Int)*2:=oM
        go_wp2_with (at_builtin;refine ef (k:=.i64) (S:=fun _=>True) (A:=some ⟨w5.heap.size,0,none⟩) (m:=2) (c:=2) rfl (.tmp 76) (.tmp 86) rfl lQ rfl (ON.o.below ((qB _ _).alloc (lR _) _) (lR _) (fun _ h=>h.elim)) rfl (SLH.o _ rfl) (by unfold maxLen;omega) oM (by have:=FR.o.size;simp;omega) ?_;intro v' wz ownz gz atz)
        have LT9:=fun j h=>(LTU j h).1
        have KW:Below w5 w5 (w5.alloc (.cells #[.int .i64 x1,.int .i64 x2] 246)):=(qB _ _).alloc (lR _) _
        have EL:=ks (fun p=>dh xs ws p n) (min (i*2) (m - 2)) 2 oM
        rw [show min (i*2) (m - 2)=i*2 by omega] at EL
        simp only [I12.o.1,I12.o.2] at EL
        have EM:=HC1.o.2.2
        rw [show min (i*2) (m - 2)=i*2 by omega] at ownz EM
        rw [EL,EM] at ownz
        exact ⟨⟨i+1,by omega,by go_num,(FR.o.fut KW).row gz LT9,(OT.o.fut KW).row gz LT9,(OX.o.fut KW).row gz LT9,ownz⟩,by simp [intOf];omega⟩
       ·have hcn:cnt=1:=by rw [HCN.o,if_neg h4]
        subst hcn
        have h5:¬ (2:Int)≤(m:Int) - 2 - (i:Int)*2:=oM
        have h6:(m:Int) - 2 - (i:Int)*2=1:=oM
        go_wp2_with (at_builtin;refine ef (k:=.i64) (S:=fun _=>True) (A:=some ⟨w5.heap.size,0,none⟩) (m:=1) (c:=2) rfl (.tmp 76) (.tmp 86) rfl lQ rfl (ON.o.below ((qB _ _).alloc (lR _) _) (lR _) (fun _ h=>h.elim)) rfl (SLH.o _ rfl) (by unfold maxLen;omega) oM (by have:=FR.o.size;simp;omega) ?_;intro v' wz ownz gz atz)
        have LT9:=fun j h=>(LTU j h).1
        have KW:Below w5 w5 (w5.alloc (.cells #[.int .i64 x1,.int .i64 x2] 246)):=(qB _ _).alloc (lR _) _
        have EL:=ks (fun p=>dh xs ws p n) (min (i*2) (m - 2)) 1 oM
        rw [show min (i*2) (m - 2)=i*2 by omega] at EL
        simp only [I12.o.1,I12.o.2] at EL
        have EM:=HC1.o.2.2
        rw [show min (i*2) (m - 2)=i*2 by omega] at ownz EM
        rw [EL,EM] at ownz
        exact ⟨⟨i+1,by omega,by go_num,(FR.o.fut KW).row gz LT9,(OT.o.fut KW).row gz LT9,(OX.o.fut KW).row gz LT9,ownz⟩,by simp [intOf];omega⟩
    ·obtain rfl:NB=i:=oM
     have hmn:min (NB*2) (m - 2)=m - 2:=by have:=HNB.o;omega
     have ON:=zH (show Own (aa .i64) wr (fun _=>False) w9.heap.size 2 u5 (m - 2) (iG xs ws m n) by have:=ON.o;rw [hmn] at this;exact this)
     obtain ⟨OA,ocap,rfl,hos⟩:=ON.o.sl (S':=bin w1 wr) dM (fun b h1 h2=>⟨lT FN.o.size h1,h2⟩) (fun _ h=>h.elim)
     have HOS:=zH hos
     have FE:=zH (FN.o.trans FR.o)
     clear hos ON
     go_wp2_with fail
     go_step3
     go_wp2_with fail
     rw [Exit.noGoto_ret]
     go_ret
     exact ⟨OA,m - 2,ocap,rfl,HOS.o,FE.out.out⟩
end Go.Proofs.YtmihnoagagbgaaaGreat
