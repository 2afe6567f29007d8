/-
  Numbers of eight bits that an iterator hands out, gathered (slices.AppendSeq, slices.Collect); those of a window (layer 19).
  Numbers by a function (layer 21): act.Of, the document's Of, of a tensor that is right.
  The middle of numbers (layer 19): pool.Near, pool.mean, the document's Near, Mean; a tensor laid flat (layer 5).
  The middle of numbers (layer 19): pool.mean, the document's Mean; a tensor laid flat (layer 5: tensor.Flat).
  A slice of one number, many times (slices.Repeat).
-/
import Derived.RangeFuncBox
import Derived.RangeFuncWrites
import Derived.Maps.AppendAt
import Derived.Test.YtlbkekabmpienaaGreatJ25
import Derived.Test.YtlbkekabmpienaaGreatJ00
import Derived.Test.YtlbkekabmpienaaGreatJ26
import Derived.Test.YtlbkekabmpienaaGreatJ15
import Derived.StillTailTactics
import Derived.Deep.DeepCutAuto
import Derived.Deep.CutRange
import Derived.Deep.CutBlock
import Derived.Test.YtlbkekabmpienaaGreatJ03
import Derived.Test.YtlbkekabmpienaaGreatJ18
import Derived.Test.YtlbkekabmpienaaGreatJ06
namespace Go.Proofs.YtlbkekabmpienaaGreat
set_option linter.unusedVariables false
set_option linter.unusedSimpArgs false
open Go.RowKit Go.Shelf
set_option maxRecDepth 100000
set_option maxHeartbeats 4000000
theorem rows_i8 (w:World) (S:Nat → Prop):∀ xs:List I8,RowsOf (tInt .i8) w S (xs.map fun x=>Value.int .i8 x.1) (xs.map fun x=>x.1)
 | []=>rfl
 | x :: xs=>⟨[Value.int .i8 x.1],xs.map fun x=>Value.int .i8 x.1,rfl,⟨rfl,x.2⟩,rows_i8 w S xs⟩
theorem info_i8:(Tryz.prog.info? 22).map (fun i=>(i.zero,i.size,i.bytes))=some (some (.int .i8 0),1,1):=by kernel_rfl
section
attribute [local go_sem] Oper.semAt_some
theorem append8_in (n gf:Nat) (hn:5≤n) (lb:Array Value) (xs:List I8) (N:Nat) (Sp:List I8 → Prop) (w:World) (hN:N≤1000)
  (eg:∀ args w,(callFunc gf args).run Tryz.prog w=.ok (.enter gf args) w)
  (hseq:SeqStopsK Fence.wide (n - 1) Tryz.prog gf lb e8 (Below w.heap.size) (fun ys=>ys=xs) Sp N w) :
  CallsIn Fence.wide n Tryz.prog 128 #[.slice none 0 0,.func (.func gf) #[] lb] w fun e W'=>∃ v,e=.returned v∧W'.ownsRow w.heap.size 22 1 v xs.length (xs.map fun x=>Value.int .i8 x.1)∧Below w.heap.size w W':=by
 have h1:1≤n:=by omega
 obtain ⟨i0,hi,hz0,hz1,hz2⟩:=info_parts info_i8
 refine callsIn_of_wp_marks Tryz.func128 rfl trivial ?_ rfl
 simp only [Tryz.ntmps128,List.size_toArray,List.length_cons,List.length_nil,Nat.reduceAdd,Nat.reduceSub,Array.replicate_succ,Array.replicate_zero,List.push_toArray,List.append_toArray,List.nil_append,List.cons_append]
 gi_wp2
 have bO:=Boxed.new w 23 (.slice none 0 0)
 have hB0:Below w.heap.size w (w.alloc (.cells #[.slice none 0 0] 23)):=(Below.refl _ w).alloc (Nat.le_refl _) _
 refine wpIn_rangeFunc_ownG rfl h1 (gf:=gf) (lb:=lb) rfl trivial eg
  hseq belowK_t (belowK_b (by simp)) hB0 (fun _=>rfl)
  (fun pre W=>(∃ v,Boxed W w.heap.size 23 v∧W.ownsRow w.heap.size 22 1 v pre.length (pre.map fun x=>Value.int .i8 x.1)∧True)∧Below w.heap.size w W)
  (fun _ _ _=>False)
  (OwnFrom.and (Own.from (holdsRow_own w.heap.size w.heap.size 23 22 1 (fun pre:List I8=>pre.length) (fun pre=>pre.map fun x=>Value.int .i8 x.1) (fun pre v=>True)) _) (ownFrom_below (Nat.le_refl _) (by simp)))
  (fun _ _ _ _ _ hs _ _=>hs)
  ⟨⟨_,bO,World.ownsRow_nil _ _ _ _,trivial⟩,hB0⟩
  (fun x=>{ tmps:=#[.slice none 0 0,.func (.func gf) #[] lb,.pointer (some ⟨w.heap.size,0,none⟩),undef,.slice none 0 0,.int .i8 x.1,.func (.func gf) #[] lb,.int .i8 x.1,undef,undef,undef,undef,undef],defers:=[] }) ?assign ?body ?done ?stop
 case assign =>
  intro l x W K hK
  simp only [e8]
  gi_wp2
  exact hK
 case body =>
  rintro l pre x W ⟨⟨v,hv,hrow,-⟩,hB⟩ hlt
  have hc:=hv.cell
  gi_wp2_with (gi_at_builtin;refine wpListIn_append_own _ rfl _ _ 23 rfl w.heap.size 22 i0 (.int .i8 0) 1 1 Tryz.underlying23 hi hz0 hz1 hz2 rfl (by decide) _ _ _ rfl (hrow.alloc _) ⟨W.heap.size,0,none⟩ 1 1 [.int .i8 x.1] rfl rfl (cell_one_new _ _ _) (by simp [Value.oneCell']) (by unfold maxLen;omega) (by omega) (by have:=hB.size;simp;omega) ?_;intro v' w1 hown' hgrow _;obtain ⟨g',cap',rfl⟩:=ownsRow_succ hown';obtain ⟨hv1,hv2,hr2,hk2,hb2⟩:=hv.appended (by decide) hrow hB.size (Nat.le_refl _) hown' hgrow;have hc1:=hv1.cell;have hf1:=hv1.frozen)
  exact ⟨hk2.from _,hb2,⟨_,hv2,by simpa using hr2,trivial⟩,hB.trans hb2⟩
 case done =>
  rintro D ys W hD rfl ⟨⟨v,hv,hrow,-⟩,hB⟩ hK
  have hc:=hv.cell
  gi_wp2
  refine ⟨by simp,.inl ⟨_,_,rfl,run_takeDeferred hK,?_⟩⟩
  exact ⟨_,results_tmp rfl _ _ _,v,rfl,ownsRow_putObj hrow _ hK rfl,hB.trans (belowK_b (w:=w) (Nat.le_refl _) W D _ _ (by simp at hD;omega) hK rfl rfl)⟩
 case stop =>
  rintro D c pre W _ _ h _
  exact h.elim
end
theorem collect8_any (gf:Nat) (lb:Array Value) (xs:List I8) (N:Nat) (Sp:List I8 → Prop) (w:World) (hN:N≤1000)
  (eg:∀ args w,(callFunc gf args).run Tryz.prog w=.ok (.enter gf args) w)
  (hseq:SeqStopsK Fence.wide 5 Tryz.prog gf lb e8 (Below w.heap.size) (fun ys=>ys=xs) Sp N w) :
  Calls Tryz.prog 94 #[.func (.func gf) #[] lb] w (RetSl (tInt .i8) w (xs.map fun x=>x.1)):=by
 go_enter Tryz.func94,Tryz.ntmps94
 go_wp2_with (go_at_call 128;refine ((callsIn_wide (n:=6)).1 (append8_in 6 gf (by decide) lb xs N Sp w hN eg hseq)).mono ?_;rintro e w2 ⟨v,rfl,hrow,hb⟩)
 go_ret
 have ho:Own (tInt .i8) w2 (fun _=>False) w.heap.size 22 v xs.length (xs.map fun x=>x.1):=⟨_,hrow,rows_i8 _ _ _⟩
 exact ho.ret (by decide) hb (fun _ h=>h.elim)
theorem window_any (H V C:Nat) (A:Option Addr) (n cap:Nat) (l:List Int) (d:Node) (W:Option Addr) (nw cw:Nat) (B:Option Addr) (nb cb:Nat) (K S P y x c:Nat) (w:World)
  (hl:Sl (tInt .i8) w (blo w.heap.size) A n cap l) (hn:n=H*V*C) (hn2:n≤1024) (h1:1≤H∧H≤16) (v1:1≤V∧V≤16) (c1:1≤C∧C≤1024) (he:decide (0 < elems H V C)=true)
  (hk:d.k=K) (hs:d.s=S) (hp:d.p=P) (k1:1≤K∧K≤5) (s1:1≤S∧S≤4) (p1:P≤4) (hy:y≤1000) (hx:x≤1000) (hc:c < C) :
  Calls Tryz.prog 95 #[.agg #[.int .i64 H,.int .i64 V,.int .i64 C,.slice A n cap],.agg #[.int .i64 d.kind,.int .i64 d.a,.int .i64 d.b,.int .i64 d.k,.int .i64 d.s,.int .i64 d.p,.int .i64 d.out,.int .i8 d.za,.int .i8 d.zb,.slice W nw cw,.slice B nb cb,.int .i32 d.qm,.int .i64 d.qs,.int .i8 d.qz,.int .i32 d.rm,.int .i64 d.rs,.int .i8 d.rz,.int .i8 d.lo,.int .i8 d.hi],.int .i64 y,.int .i64 x,.int .i64 c] w fun e w' =>
   ∃ F,e=.returned F∧Below w.heap.size w w'∧Calls Tryz.prog 94 #[F] w' (RetSl (tInt .i8) w' (winL H V C l K S P c y x (K*K))):=by
 have HL:=zH hl
 have hkk:K*K≤5*5:=Nat.mul_le_mul k1.2 k1.2
 have FR:=zH (Far.refl w)
 obtain ⟨w1,hw_w1,BT,k_w1⟩:=nB w #[.int .i64 H,.int .i64 V,.int .i64 C,.slice A n cap] 32
 replace FR:=zH (FR.out.fut k_w1)
 clear k_w1
 obtain ⟨w2,hw_w2,BN,k_w2⟩:=nB w1 #[.int .i64 d.kind,.int .i64 d.a,.int .i64 d.b,.int .i64 d.k,.int .i64 d.s,.int .i64 d.p,.int .i64 d.out,.int .i8 d.za,.int .i8 d.zb,.slice W nw cw,.slice B nb cb,.int .i32 d.qm,.int .i64 d.qs,.int .i8 d.qz,.int .i32 d.rm,.int .i64 d.rs,.int .i8 d.rz,.int .i8 d.lo,.int .i8 d.hi] 28
 replace FR:=zH (FR.out.fut k_w2)
 replace BT:=zH (BT.out.fut k_w2)
 clear k_w2
 obtain ⟨w3,hw_w3,BH,k_w3⟩:=nB w2 #[.int .i64 y] 3
 replace FR:=zH (FR.out.fut k_w3)
 replace BT:=zH (BT.out.fut k_w3)
 replace BN:=zH (BN.out.fut k_w3)
 clear k_w3
 obtain ⟨w4,hw_w4,BW,k_w4⟩:=nB w3 #[.int .i64 x] 3
 replace FR:=zH (FR.out.fut k_w4)
 replace BT:=zH (BT.out.fut k_w4)
 replace BN:=zH (BN.out.fut k_w4)
 replace BH:=zH (BH.out.fut k_w4)
 clear k_w4
 obtain ⟨w5,hw_w5,BC,k_w5⟩:=nB w4 #[.int .i64 c] 3
 replace FR:=zH (FR.out.fut k_w5)
 replace BT:=zH (BT.out.fut k_w5)
 replace BN:=zH (BN.out.fut k_w5)
 replace BH:=zH (BH.out.fut k_w5)
 replace BW:=zH (BW.out.fut k_w5)
 clear k_w5
 have q1:w.heap.size < w1.heap.size:=by rw [← hw_w1];simp
 have q2:w1.heap.size < w2.heap.size:=by rw [← hw_w2];simp
 have q3:w2.heap.size < w3.heap.size:=by rw [← hw_w3];simp
 have q4:w3.heap.size < w4.heap.size:=by rw [← hw_w4];simp
 have q5:w4.heap.size < w5.heap.size:=by rw [← hw_w5];simp
 have s5:=zH ((Old.now HL.out).fut FR.out.out).all
 have WS:=zH (win1_stops H V C A n cap l d W nw cw B nb cb K S P y x c w1.heap.size w.heap.size w2.heap.size w3.heap.size w4.heap.size w5.heap.size 5 w5 s5.out hn hn2 h1 v1 c1 he hk hs hp k1 s1 p1 hy hx hc BN.out BT.out BH.out BW.out BC.out ⟨by omega,by omega,by omega,by omega,by omega⟩ (Nat.le_refl _) (by decide))
 clear hn hk hs hp he hl
 go_enter Tryz.func95,Tryz.ntmps95
 go_wp2_with fail
 go_ret
 refine ⟨_,rfl,FR.out.out,?_⟩
 refine (collect8_any 129 #[.pointer (some ⟨w1.heap.size,0,none⟩),.pointer (some ⟨w.heap.size,0,none⟩),.pointer (some ⟨w2.heap.size,0,none⟩),.pointer (some ⟨w3.heap.size,0,none⟩),.pointer (some ⟨w4.heap.size,0,none⟩)] (winX H V C l s5.out.allK K S P c y x (K*K)) (K*K) (fun _=>True) w5 (by omega) (enters_of Tryz.func129 (by kernel_rfl) rfl) WS.out).mono ?_
 intro e w6 h
 rw [winX_map] at h
 exact h
end Go.Proofs.YtlbkekabmpienaaGreat
namespace Go.Proofs.YtlbkekabmpienaaGreat
set_option linter.unusedVariables false
set_option linter.unusedSimpArgs false
open Go.RowKit Go.ChangeShapes Go.WideShapes Fx
set_option maxRecDepth 100000
set_option maxHeartbeats 8000000
/-- What a node that holds numbers makes of a tensor that is right. -/
def actQ (t:Tensor) (d:Node):Tensor × Int:=if quantOk d.qm d.qs=true then (⟨t.h,t.v,t.c,(List.range t.data.length).map fun i=>oneV d (t.data.getD i 0)⟩,0) else (noTensor,7)
theorem actOf_any (t:Tensor) (A:Option Addr) (n cap:Nat) (d:Node) (W:Option Addr) (nw cw:Nat) (B:Option Addr) (nb cb:Nat) (w:World) (ht:TensorIn t) (hd:NodeIn d)
  (ha:Sl (tInt .i8) w (blo w.heap.size) A n cap t.data) (c1:t.ok=true) :
  Calls Tryz.prog 21 #[.agg #[.int .i64 t.h,.int .i64 t.v,.int .i64 t.c,.slice A n cap],.agg #[.int .i64 d.kind,.int .i64 d.a,.int .i64 d.b,.int .i64 d.k,.int .i64 d.s,.int .i64 d.p,.int .i64 d.out,.int .i8 d.za,.int .i8 d.zb,.slice W nw cw,.slice B nb cb,.int .i32 d.qm,.int .i64 d.qs,.int .i8 d.qz,.int .i32 d.rm,.int .i64 d.rs,.int .i8 d.rz,.int .i8 d.lo,.int .i8 d.hi]] w (RetT .i8 (actQ t d).1 (actQ t d).2 w):=by
 have HA:=zH ha
 have HT:=zH ht
 have HD:=zH hd
 have C1:=zH c1
 obtain ⟨H,V,C,TK⟩:=tok_of c1
 have hn2:n≤1024:=by have:=TK.n_le;rw [ha.n_eq] at this;exact this
 have c1':decide (0 < elems t.h t.v t.c∧elems t.h t.v t.c=n)=true:=by rw [← HA.out.n_eq];simpa [Tensor.ok] using c1
 have RI:=zH (fun w=>tensorRight_any t.h t.v t.c A n cap w ht.h ht.v ht.c (Nat.le_trans ha.cap_le ha.max_le))
 rw [c1'] at RI
 have mx:n≤9223372036854775807:=by omega
 have HQ:=zH (show actQ t d=if quantOk d.qm d.qs=true then (⟨t.h,t.v,t.c,(List.range n).map fun i=>oneV d (t.data.getD i 0)⟩,0) else (noTensor,7) by unfold actQ;rw [ha.n_eq])
 obtain ⟨x,hx⟩:∃ x,actQ t d=x:=⟨_,rfl⟩
 rw [hx] at HQ ⊢
 have FR:=zH (Far.refl w)
 obtain ⟨w1,hw_w1,BA,k_w1⟩:=nB w #[.int .i64 t.h,.int .i64 t.v,.int .i64 t.c,.slice A n cap] 32
 replace FR:=zH (FR.out.fut k_w1)
 clear k_w1
 obtain ⟨w2,hw_w2,BN,k_w2⟩:=nB w1 #[.int .i64 d.kind,.int .i64 d.a,.int .i64 d.b,.int .i64 d.k,.int .i64 d.s,.int .i64 d.p,.int .i64 d.out,.int .i8 d.za,.int .i8 d.zb,.slice W nw cw,.slice B nb cb,.int .i32 d.qm,.int .i64 d.qs,.int .i8 d.qz,.int .i32 d.rm,.int .i64 d.rs,.int .i8 d.rz,.int .i8 d.lo,.int .i8 d.hi] 28
 replace FR:=zH (FR.out.fut k_w2)
 replace BA:=zH (BA.out.fut k_w2)
 clear k_w2
 obtain ⟨w3,hw_w3,BR,k_w3⟩:=nB w2 #[.int .i64 0,.int .i64 0,.int .i64 0,.slice none 0 0] 32
 replace FR:=zH (FR.out.fut k_w3)
 replace BA:=zH (BA.out.fut k_w3)
 replace BN:=zH (BN.out.fut k_w3)
 clear k_w3
 have l1:w.heap.size < w1.heap.size:=by rw [← hw_w1];simp
 have l2:w1.heap.size < w2.heap.size:=by rw [← hw_w2];simp
 have l3:w2.heap.size < w3.heap.size:=by rw [← hw_w3];simp
 obtain ⟨qq,hq⟩:∃ q,quantOk d.qm d.qs=q:=⟨_,rfl⟩
 rw [hq] at HQ
 have QE:=zH hq
 have TA:=zH (fun w=>actTable_any d W nw cw B nb cb w hd)
 rw [hq] at TA
 clear ht hd ha c1 c1' TK hx hq
 cases qq with
 | false =>
  rw [if_neg (by decide)] at HQ
  rw [HQ.out]
  simp only [Bool.false_eq_true,if_false,false_implies,and_true] at TA
  go_enter Tryz.func21,Tryz.ntmps21
  go_wp2_with (first|(refine lB 32 (.tmp 2) w.heap.size BA.out Tryz.underlying32 ?_)|(go_at_call 17;refine (RI.out _).mono ?_;rintro e w4 ⟨rfl,hb⟩;have l4:=hb.size;replace FR:=zH (FR.out.fut hb);replace BA:=zH (BA.out.fut hb);replace BN:=zH (BN.out.fut hb);replace BR:=zH (BR.out.fut hb);clear hb hw_w1 hw_w2 hw_w3)|(refine lB 28 (.tmp 3) w1.heap.size BN.out Tryz.underlying28 ?_))
  refine (TA.out _).mono ?_
  rintro e w5 ⟨⟨k,rfl⟩,hb⟩
  have l5:=hb.size
  replace FR:=zH (FR.out.fut hb)
  replace BA:=zH (BA.out.fut hb)
  replace BN:=zH (BN.out.fut hb)
  replace BR:=zH (BR.out.fut hb)
  clear hb
  obtain ⟨w6,hw_w6⟩:∃ x,w5.alloc (.cells Tryz.zeroCells83 83)=x:=⟨_,rfl⟩
  have hb:Below w5.heap.size w5 w6:=by rw [← hw_w6];exact (Below.refl _ _).alloc (Nat.le_refl _) _
  have BT:=zH (show Blk w6 w5.heap.size 83 (tabC (actF d) 0) by rw [← hw_w6,tabC_zero (actF d)];exact Blk.now _ _ _ _ rfl)
  replace FR:=zH (FR.out.fut hb)
  replace BA:=zH (BA.out.fut hb)
  replace BN:=zH (BN.out.fut hb)
  replace BR:=zH (BR.out.fut hb)
  clear hb
  go_wp2_with (first|(refine wpList_store_all rfl 83 (.tmp 6) (.tmp 15) rfl w5.heap.size (tabC (actF d) k) rfl rfl _ (tabC (actF d) 0) BT.out (by simp [tabC_size]) (by rw [tabC_size];kernel_rfl) (tabC_one _ _) ?_;intro w7 B7 g7;replace FR:=zH (FR.out.away g7 (by omega));replace BR:=zH (BR.out.away g7 (.inl (by omega))))|(refine sB 32 (.tmp 4) (.tmp 19) w2.heap.size #[.int .i64 0,.int .i64 0,.int .i64 0,.slice none 0 0] BR.out ?_;intro w9 B9 g9))
  refine ret_cell_tmp rfl B9 rfl Tryz.underlying32 (by kernel_rfl) rfl ?_
  exact RetT.none (FR.out.away g9 (by omega)).out
 | true =>
  rw [if_pos rfl] at HQ
  rw [HQ.out]
  simp only [if_true,true_implies] at TA
  have EQ:=zH (show ((List.range n).map fun i=>actF d (t.data.getD i 0+128).toNat)=((List.range n).map fun i=>oneV d (t.data.getD i 0)) by
   apply List.map_congr_left
   intro i _
   have:=HA.out.allK i
   rw [inK_i8] at this
   unfold actF
   congr 1
   omega)
  have BY:=zH (fun wq (h:Sl (tInt .i8) wq (blo wq.heap.size) A n cap t.data)=>actBy_any t A n cap (actF d) wq HT.out h C1.out (fun i=>oneV_in d _))
  rw [EQ.out] at BY
  go_enter Tryz.func21,Tryz.ntmps21
  go_wp2_with (first|(refine lB 32 (.tmp 2) w.heap.size BA.out Tryz.underlying32 ?_)|(go_at_call 17;refine (RI.out _).mono ?_;rintro e w4 ⟨rfl,hb⟩;have l4:=hb.size;replace FR:=zH (FR.out.fut hb);replace BA:=zH (BA.out.fut hb);replace BN:=zH (BN.out.fut hb);replace BR:=zH (BR.out.fut hb);clear hb hw_w1 hw_w2 hw_w3)|(refine lB 28 (.tmp 3) w1.heap.size BN.out Tryz.underlying28 ?_))
  refine (TA.out _).mono ?_
  rintro e w5 ⟨⟨k,rfl,rfl⟩,hb⟩
  have l5:=hb.size
  replace FR:=zH (FR.out.fut hb)
  replace BA:=zH (BA.out.fut hb)
  replace BN:=zH (BN.out.fut hb)
  replace BR:=zH (BR.out.fut hb)
  clear hb
  obtain ⟨w6,hw_w6⟩:∃ x,w5.alloc (.cells Tryz.zeroCells83 83)=x:=⟨_,rfl⟩
  have hb:Below w5.heap.size w5 w6:=by rw [← hw_w6];exact (Below.refl _ _).alloc (Nat.le_refl _) _
  have BT:=zH (show Blk w6 w5.heap.size 83 (tabC (actF d) 0) by rw [← hw_w6,tabC_zero (actF d)];exact Blk.now _ _ _ _ rfl)
  replace FR:=zH (FR.out.fut hb)
  replace BA:=zH (BA.out.fut hb)
  replace BN:=zH (BN.out.fut hb)
  replace BR:=zH (BR.out.fut hb)
  clear hb
  go_wp2_with (first|(refine wpList_store_all rfl 83 (.tmp 6) (.tmp 15) rfl w5.heap.size (tabC (actF d) 256) rfl rfl _ (tabC (actF d) 0) BT.out (by simp [tabC_size]) (by rw [tabC_size];kernel_rfl) (tabC_one _ _) ?_;intro w7 B7 g7;replace FR:=zH (FR.out.away g7 (by omega));replace BR:=zH (BR.out.away g7 (.inl (by omega)));replace BA:=zH (BA.out.away g7 (.inl (by omega))))|(refine lB 32 (.tmp 2) w.heap.size BA.out Tryz.underlying32 ?_)|(refine wpList_load_blk rfl 83 (.tmp 6) rfl w5.heap.size 0 rfl _ (tabC (actF d) 256) (tabC (actF d) 256) _ B7 Tryz.underlying83 rfl (by rw [tabC_size];kernel_rfl) (by rw [List.drop_zero,List.take_of_length_le (by simp)]) ?_))
  refine (BY.out _ ((Old.now HA.out).fut FR.out.out).all).mono ?_
  rintro e w8 ⟨RA,rn,rc,rfl,rs,hb⟩
  have RS:=zH (show New w7 (tInt .i8) w8 RA rn rc _ from ⟨rs⟩)
  have lbr:=BR.out.lt
  have lfr:=FR.out.size
  replace FR:=zH (FR.out.fut hb)
  replace BR:=zH (BR.out.fut hb)
  clear hb rs
  go_wp2_with (refine sB 32 (.tmp 4) (.tmp 24) w2.heap.size #[.int .i64 t.h,.int .i64 t.v,.int .i64 t.c,.slice RA rn rc] BR.out ?_;intro w9 B9 g9)
  refine ret_cell_tmp rfl B9 rfl Tryz.underlying32 (by kernel_rfl) rfl ?_
  exact ⟨RA,rn,rc,rfl,(RS.out.away g9 lbr).out.more (bin_more lfr (Nat.le_refl _)),(FR.out.away g9 (by omega)).out⟩
end Go.Proofs.YtlbkekabmpienaaGreat
namespace Go.Proofs.YtlbkekabmpienaaGreat
set_option linter.unusedVariables false
set_option linter.unusedSimpArgs false
open Go.RowKit Go.ChangeShapes Go.WideShapes Fx
set_option maxRecDepth 100000
set_option maxHeartbeats 4000000
def nearN (k m:Nat):Nat:=k / m+if m - k % m≤k % m then 1 else 0
/-- The whole number that is nearest to s by m; halves go away from 0. -/
def nearV (s:Int) (m:Nat):Int:=if m=0 then 0 else if s < 0 then -(nearN s.natAbs m:Int) else (nearN s.natAbs m:Int)
theorem poolNear_any (s:Int) (m:Nat) (w:World) (h1:m≤1024) (h2:-131072≤s) (h3:s≤131072) :
  Calls Tryz.prog 97 #[.int .i64 s,.int .i64 m] w fun e w'=>e=.returned (.int .i64 (nearV s m))∧Below w.heap.size w w':=by
 unfold nearV
 by_cases m0:m=0
 ·rw [if_pos m0]
  subst m0
  go_enter Tryz.func97,Tryz.ntmps97
  go_wp2_with fail
  go_ret
  exact ⟨rfl,Below.refl _ _⟩
 rw [if_neg m0]
 have mp:¬ (m:Int) < 1:=by omega
 have mz:¬ (m:Int)=0:=by omega
 obtain ⟨res,hres⟩:∃ r:Int,(if s < 0 then -(nearN s.natAbs m:Int) else (nearN s.natAbs m:Int))=r:=⟨_,rfl⟩
 rw [hres]
 unfold nearN at hres
 by_cases b1:s < 0
 ·rw [if_pos b1] at hres
  obtain ⟨k,rfl⟩:∃ k:Nat,s=-(k:Int):=⟨s.natAbs,by omega⟩
  rw [show (-(k:Int)).natAbs=k by omega] at hres
  obtain ⟨a,ha⟩:∃ a,k / m=a:=⟨_,rfl⟩
  obtain ⟨b,hb⟩:∃ b,k % m=b:=⟨_,rfl⟩
  have ha2:a≤k:=by rw [← ha];exact Nat.div_le_self _ _
  have hb2:b < m:=by rw [← hb];exact Nat.mod_lt _ (by omega)
  have d1:(-(k:Int)).tdiv (m:Int)=-(a:Int):=by rw [Int.neg_tdiv,Int.tdiv_eq_ediv_of_nonneg (by omega),← ha];simp
  have d2:(-(k:Int)).tmod (m:Int)=-(b:Int):=by rw [Int.neg_tmod,Int.tmod_eq_emod_of_nonneg (by omega),← hb];simp
  have d3:(k:Int).tdiv (m:Int)=(a:Int):=by rw [Int.tdiv_eq_ediv_of_nonneg (by omega),← ha];simp
  have d4:(k:Int).tmod (m:Int)=(b:Int):=by rw [Int.tmod_eq_emod_of_nonneg (by omega),← hb];simp
  have d5:(k:Int) / (m:Int)=(a:Int):=by rw [← ha];simp
  have d6:(k:Int) % (m:Int)=(b:Int):=by rw [← hb];simp
  have e1:IntKind.i64.wrap (-(a:Int))=-(a:Int):=IntWalk.i64_in _ (by omega)
  have e2:IntKind.i64.wrap (-(b:Int))=-(b:Int):=IntWalk.i64_in _ (by omega)
  have e3:IntKind.i64.wrap (a:Int)=(a:Int):=IntWalk.i64_in _ (by omega)
  have e4:IntKind.i64.wrap (b:Int)=(b:Int):=IntWalk.i64_in _ (by omega)
  have e5:IntKind.i64.wrap ((m:Int) - (b:Int))=(m:Int) - (b:Int):=IntWalk.i64_in _ (by omega)
  rw [ha,hb] at hres
  clear ha hb
  by_cases c1:m - b≤b
  ·rw [if_pos c1] at hres
   subst hres
   have t1:(m:Int)+-(b:Int)≤(b:Int):=by omega
   have t2:(m:Int) - (b:Int)≤(b:Int):=by omega
   have t3:¬ (0:Int) < -(b:Int):=by omega
   have t4:-(b:Int) < 0:=by omega
   have t5:0 < b:=by omega
   go_enter Tryz.func97,Tryz.ntmps97
   go_wp2_with fail
   go_quiet (fail)
   go_wp2_with fail
   go_ret
   exact ⟨by show Ending.returned (.int .i64 _)=_;go_num,below_drewN (Below.refl _ _) _⟩
  ·rw [if_neg c1,Nat.add_zero] at hres
   subst hres
   by_cases c2:b=0
   ·subst c2
    have t1:¬ (m:Int)≤0:=by omega
    have t2:¬ m≤0:=by omega
    simp only [Int.natCast_zero,Int.neg_zero,Int.sub_zero,Int.ofNat_zero] at d2 d4 d6 e2 e4 e5
    go_enter Tryz.func97,Tryz.ntmps97
    go_wp2_with fail
    go_quiet (fail)
    go_wp2_with fail
    go_ret
    exact ⟨rfl,below_drewN (Below.refl _ _) _⟩
   ·have t1:¬ (m:Int)+-(b:Int)≤(b:Int):=by omega
    have t2:¬ (m:Int) - (b:Int)≤(b:Int):=by omega
    have t3:¬ (0:Int) < -(b:Int):=by omega
    have t4:-(b:Int) < 0:=by omega
    have t5:0 < b:=by omega
    go_enter Tryz.func97,Tryz.ntmps97
    go_wp2_with fail
    go_quiet (fail)
    go_wp2_with fail
    go_ret
    exact ⟨rfl,below_drewN (Below.refl _ _) _⟩
 ·rw [if_neg b1] at hres
  obtain ⟨k,rfl⟩:∃ k:Nat,s=(k:Int):=⟨s.natAbs,by omega⟩
  rw [show ((k:Int)).natAbs=k by omega] at hres
  obtain ⟨a,ha⟩:∃ a,k / m=a:=⟨_,rfl⟩
  obtain ⟨b,hb⟩:∃ b,k % m=b:=⟨_,rfl⟩
  have ha2:a≤k:=by rw [← ha];exact Nat.div_le_self _ _
  have hb2:b < m:=by rw [← hb];exact Nat.mod_lt _ (by omega)
  have d3:(k:Int).tdiv (m:Int)=(a:Int):=by rw [Int.tdiv_eq_ediv_of_nonneg (by omega),← ha];simp
  have d4:(k:Int).tmod (m:Int)=(b:Int):=by rw [Int.tmod_eq_emod_of_nonneg (by omega),← hb];simp
  have d5:(k:Int) / (m:Int)=(a:Int):=by rw [← ha];simp
  have d6:(k:Int) % (m:Int)=(b:Int):=by rw [← hb];simp
  have e3:IntKind.i64.wrap (a:Int)=(a:Int):=IntWalk.i64_in _ (by omega)
  have e4:IntKind.i64.wrap (b:Int)=(b:Int):=IntWalk.i64_in _ (by omega)
  have e5:IntKind.i64.wrap ((m:Int) - (b:Int))=(m:Int) - (b:Int):=IntWalk.i64_in _ (by omega)
  rw [ha,hb] at hres
  clear ha hb
  by_cases c1:m - b≤b
  ·rw [if_pos c1] at hres
   subst hres
   have t2:(m:Int) - (b:Int)≤(b:Int):=by omega
   have t5:0 < b:=by omega
   go_enter Tryz.func97,Tryz.ntmps97
   go_wp2_with fail
   go_quiet (fail)
   go_wp2_with fail
   go_ret
   exact ⟨by show Ending.returned (.int .i64 _)=_;go_num,below_drewN (Below.refl _ _) _⟩
  ·rw [if_neg c1,Nat.add_zero] at hres
   subst hres
   by_cases c2:b=0
   ·subst c2
    have t1:¬ (m:Int)≤0:=by omega
    have t2:¬ m≤0:=by omega
    simp only [Int.natCast_zero,Int.neg_zero,Int.sub_zero,Int.ofNat_zero] at d4 d6 e4 e5
    go_enter Tryz.func97,Tryz.ntmps97
    go_wp2_with fail
    go_quiet (fail)
    go_wp2_with fail
    go_ret
    exact ⟨rfl,below_drewN (Below.refl _ _) _⟩
   ·have t2:¬ (m:Int) - (b:Int)≤(b:Int):=by omega
    have t5:0 < b:=by omega
    have t6:¬ (b:Int) < 0:=by omega
    go_enter Tryz.func97,Tryz.ntmps97
    go_wp2_with fail
    go_quiet (fail)
    go_wp2_with fail
    go_ret
    exact ⟨rfl,below_drewN (Below.refl _ _) _⟩
end Go.Proofs.YtlbkekabmpienaaGreat
namespace Go.Proofs.YtlbkekabmpienaaGreat
set_option linter.unusedVariables false
set_option linter.unusedSimpArgs false
open Go.RowKit Go.ChangeShapes Go.WideShapes Fx
set_option maxRecDepth 100000
set_option maxHeartbeats 4000000
def sumL (l:List Int) (n:Nat):Int:=sumN n fun i=>l.getD i 0
def meanV (l:List Int):Int:=w8 (nearV (sumL l l.length) l.length)
theorem meanV_in (l:List Int):InK .i8 (meanV l):=w8_in _
theorem sumL_le {l:List Int} (h:∀ i,InK .i8 (l.getD i 0)) (n:Nat):(sumL l n).natAbs≤n*128:=sumN_le fun i _=>by have:=h i;rw [inK_i8] at this;omega
theorem poolMean_any (A:Option Addr) (n cap:Nat) (l:List Int) (w:World) (hl:Sl (tInt .i8) w (blo w.heap.size) A n cap l) (hn:n≤1024) :
  Calls Tryz.prog 54 #[.slice A n cap] w fun e w'=>e=.returned (.int .i8 (meanV l))∧Below w.heap.size w w':=by
 have H:=zH hl
 unfold meanV
 rw [hl.n_eq]
 have LE:=zH (fun k=>sumL_le (fun i=>hl.allK i) k)
 clear hl
 go_enter Tryz.func54,Tryz.ntmps54
 go_wp2_with fail
 go_loopw [3,8] (fun u ii wr=>∃ k:Nat,k≤n∧ii=.int .i64 k∧u=.int .i64 (sumL l k)∧w=wr) (fun _ ii _=>n - (intOf ii).toNat)
 case atStart=>exact ⟨0,Nat.zero_le _,rfl,rfl,rfl⟩
 case round =>
  obtain ⟨k,hk,rfl,rfl,rfl⟩:=hrel
  have b1:=LE.out k
  by_cases hlt:k < n
  ·have p1:(k:Int) < (n:Int):=by omega
   have b2:=LE.out (k+1)
   obtain ⟨b,o,rfl,-,-,cx,ix⟩:=H.out.int_at k hlt
   have hs:sumL l (k+1)=sumL l k+l.getD k 0:=rfl
   obtain ⟨x,hx⟩:∃ x,l.getD k 0=x:=⟨_,rfl⟩
   rw [hx] at cx ix hs
   rw [inK_i8] at ix
   obtain ⟨i1,i2⟩:=ix
   have HS:=zH hs
   obtain ⟨sv,hsv⟩:∃ x,sumL l k=x:=⟨_,rfl⟩
   rw [hsv] at b1 HS ⊢
   clear hx hs hsv
   go_wp2_with fail
   exact ⟨⟨k+1,by omega,by go_num,by rw [HS.out],by trivial⟩,by simp [intOf];omega⟩
  ·obtain rfl:k=n:=by omega
   have NE:=zH (fun w=>poolNear_any (sumL l k) k w hn (by omega) (by omega))
   go_wp2_with (go_at_call 97;refine (NE.out _).mono ?_;rintro e w2 ⟨rfl,hb⟩)
   go_ret
   exact ⟨rfl,hb⟩
theorem tensorFlat_any (t:Tensor) (A:Option Addr) (n cap:Nat) (w:World) (ht:TensorIn t) (ha:Sl (tInt .i8) w (blo w.heap.size) A n cap t.data) (c1:t.ok=true) :
  Calls Tryz.prog 23 #[.agg #[.int .i64 t.h,.int .i64 t.v,.int .i64 t.c,.slice A n cap]] w (RetT .i8 ⟨1,1,n,t.data⟩ 0 w):=by
 have HA:=zH ha
 obtain ⟨H,V,C,TK⟩:=tok_of c1
 have hn2:n≤1024:=by have:=TK.n_le;rw [ha.n_eq] at this;exact this
 have c1':decide (0 < elems t.h t.v t.c∧elems t.h t.v t.c=n)=true:=by rw [← HA.out.n_eq];simpa [Tensor.ok] using c1
 have RI:=zH (fun w=>tensorRight_any t.h t.v t.c A n cap w ht.h ht.v ht.c (Nat.le_trans ha.cap_le ha.max_le))
 rw [c1'] at RI
 have mx:n≤9223372036854775807:=by omega
 have FR:=zH (Far.refl w)
 obtain ⟨w1,hw_w1,BA,k_w1⟩:=nB w #[.int .i64 t.h,.int .i64 t.v,.int .i64 t.c,.slice A n cap] 32
 replace FR:=zH (FR.out.fut k_w1)
 clear k_w1
 obtain ⟨w2,hw_w2,BR,k_w2⟩:=nB w1 #[.int .i64 0,.int .i64 0,.int .i64 0,.slice none 0 0] 32
 replace FR:=zH (FR.out.fut k_w2)
 replace BA:=zH (BA.out.fut k_w2)
 clear k_w2
 have l1:w.heap.size < w1.heap.size:=by rw [← hw_w1];simp
 clear ht ha c1 c1' TK
 go_enter Tryz.func23,Tryz.ntmps23
 go_wp2_with (first|(refine lB 32 (.tmp 1) w.heap.size BA.out Tryz.underlying32 ?_)|(go_at_call 17;refine (RI.out _).mono ?_;rintro e w4 ⟨rfl,hb⟩;have l4:=hb.size;replace FR:=zH (FR.out.fut hb);replace BA:=zH (BA.out.fut hb);replace BR:=zH (BR.out.fut hb);clear hb hw_w1 hw_w2))
 have fd:Below w.heap.size w w4.drew:=FR.out.out.drew
 refine wp_region_T (fun w'=>w'.cell? ⟨w.heap.size,3,none⟩=some (.slice A n cap)∧Below w4.drew.heap.size w4.drew w') 8 (by kernel_rfl) ?_ (fun hS=>?_)
 ·exact ⟨BA.out.drew.cell 3,Below.refl _ _⟩
 refine tkT 0 rfl (v:=?_) (Or.inl ⟨by rfl,?_⟩) hS ?_
 rotate_left
 ·intro w hSw;(try dsimp only at hSw);go_simp;try with_reducible rfl
 try simp only [pX]
 refine tkT 1 rfl (v:=?_) (Or.inl ⟨by rfl,?_⟩) hS ?_
 rotate_left
 ·intro w hSw;(try dsimp only at hSw);go_simp;try with_reducible rfl
 try simp only [pX]
 refine tkT 2 rfl (v:=?_) (Or.inl ⟨by rfl,?_⟩) hS ?_
 rotate_left
 ·intro w hSw;(try dsimp only at hSw);go_simp;try with_reducible rfl
 try simp only [pX]
 refine tkT 3 rfl (v:=?_) (Or.inl ⟨by rfl,?_⟩) hS ?_
 rotate_left
 ·intro w hSw;(try dsimp only at hSw);go_simp;try with_reducible rfl
 try simp only [pX]
 refine tkT 4 rfl (v:=?_) (Or.inl ⟨by rfl,?_⟩) hS ?_
 rotate_left
 ·intro w hSw;(try dsimp only at hSw);go_simp;try with_reducible rfl
 try simp only [pX]
 refine tkT 5 rfl (v:=?_) (Or.inl ⟨by rfl,?_⟩) hS ?_
 rotate_left
 ·intro w hSw;(try dsimp only at hSw);go_simp;try with_reducible rfl
 try simp only [pX]
 refine wpAnyT_one (i:=6) (by kernel_rfl) rfl rfl (fun K hK=>?_)
 go_simp
 refine (clone8_any A n cap t.data _ ((Old.now HA.out).fut fd).all (by omega)).mono ?_;rintro e wm ⟨RA,rn,rc,rfl,rs,hb⟩
 refine hK.out _ _ ?_ (fun hS=>?_)
 ·exact ⟨(by first|exact cell_later hb hS.1|exact Blk.later hS.1 hb),(by first|exact below_later hb hS.2|exact grown_below hS.2 hb)⟩
 clear hK K
 try simp only [pX]
 refine tkT 7 rfl (v:=?_) (Or.inl ⟨by rfl,?_⟩) hS ?_
 rotate_left
 ·intro w hSw;(try dsimp only at hSw);go_simp;try with_reducible rfl
 try simp only [pX]
 refine wpAnyT_tail _ _ rfl rfl (by kernel_rfl) ?_
 have kd:=(show Below w4.heap.size w4 w4.drew from (Below.refl _ _).drew).trans hb
 have RS:=zH (show New w4 (tInt .i8) wm RA rn rc t.data from ⟨rs⟩)
 have BR5:=zH (BR.out.fut kd)
 have lfr:=FR.out.size
 replace FR:=zH (FR.out.fut kd)
 have lbr:=BR.out.lt
 clear hS hb rs kd
 go_wp2_with (refine sB 32 (.tmp 2) (.tmp 15) w1.heap.size #[.int .i64 1,.int .i64 1,.int .i64 n,.slice RA rn rc] BR5.out ?_;intro w9 B9 g9)
 refine ret_cell_tmp rfl B9 rfl Tryz.underlying32 (by kernel_rfl) rfl ?_
 exact ⟨RA,rn,rc,rfl,(RS.out.away g9 lbr).out.more (bin_more lfr (Nat.le_refl _)),(FR.out.away g9 (by omega)).out⟩
end Go.Proofs.YtlbkekabmpienaaGreat
namespace Go.Proofs.YtlbkekabmpienaaGreat
set_option linter.unusedVariables false
set_option linter.unusedSimpArgs false
open Go.RowKit Go.ChangeShapes Go.WideShapes Fx
set_option maxRecDepth 100000
set_option maxHeartbeats 4000000
theorem bitsMul_any (N:Nat) (w:World) (hN:N≤1024) :
  Calls Tryz.prog 151 #[.int .u64 1,.int .u64 N] w fun e w'=>e=.returned (.tuple #[.int .u64 0,.int .u64 N])∧w=w':=by
 have B:=zH (fun w=>Tryz.bits_Mul64 1 N (by decide) (by omega) w)
 rw [show 1*N / 18446744073709551616=0 by omega,show 1*N % 18446744073709551616=N by omega] at B
 go_enter Tryz.func151,Tryz.ntmps151
 go_wp2_with (go_at_call 144;refine (B.out _).mono ?_;rintro e w2 ⟨rfl,rfl⟩)
 go_ret2
 exact ⟨rfl,rfl⟩
theorem rep_splice (N k m:Nat) (v:Int) (h:k+m≤N):splice (List.replicate k v ++ List.replicate (N - k) 0) k (List.replicate m v)=List.replicate (k+m) v ++ List.replicate (N - (k+m)) 0:=by
 unfold splice
 rw [List.take_append_of_le_length (by simp),List.take_of_length_le (by simp),List.length_replicate,List.drop_append]
 simp only [List.drop_replicate,List.length_replicate]
 rw [show k - (k+m)=0 by omega,List.replicate_zero,List.nil_append,← List.append_assoc,List.replicate_append_replicate,show N - k - (k+m - k)=N - (k+m) by omega]
theorem repeat_any (v:Int) (N g:Nat) (w:World) (hN:1≤N∧N≤1024) (hv:InK .i8 v) (hc:w.cell? ⟨g,0,none⟩=some (.int .i8 v)) (hg:g < w.heap.size) :
  Calls Tryz.prog 148 #[.slice (some ⟨g,0,none⟩) 1 1,.int .i64 N] w fun e w'=>∃ q,e=.returned (.slice (some ⟨q,0,none⟩) N N)∧Own (tInt .i8) w' (fun _=>False) w.heap.size 22 (.slice (some ⟨q,0,none⟩) N N) N (List.replicate N v)∧Below w.heap.size w w':=by
 have MU:=zH (fun w=>bitsMul_any N w hN.2)
 have HV:=zH hv
 have HC:=zH hc
 have FR:=zH (Far.refl w)
 have c1:IntKind.u64.wrap (N:Int)=(N:Int):=by rw [IntKind.wrap_u64];omega
 have c2:IntKind.i64.wrap (N:Int)=(N:Int):=IntWalk.i64_in _ (by omega)
 have n1:¬ (9223372036854775807:Int) < (N:Int):=by omega
 have n2:¬ (N:Int) < 0:=by omega
 obtain ⟨hN1,hN2⟩:=hN
 clear hv hc
 have f0:=zH (show ∀ x ∈ [v],InK .i8 x by intro x hx;rw [List.mem_singleton] at hx;subst hx;exact HV.out)
 have f1:=zH (show [v].length=Nat.min 1 N by show 1=min 1 N;omega)
 have f2:=zH (show ∀ w3:World,Below w.heap.size w w3 → ∀ j,j < [v].length → w3.cell? ((⟨g,0,none⟩:Addr).add j)=some (.int .i8 ([v].getD j 0)) by
  intro w3 kb j hj
  obtain rfl:j=0:=by have:j < 1:=hj;omega
  exact (kb.cell (p:=⟨g,0,none⟩) hg).trans HC.out)
 have f3:=zH (show 0+[v].length≤N by show 1≤N;omega)
 go_enter Tryz.func148,Tryz.ntmps148
 go_wp2_with (first|(go_at_call 151;refine (MU.out _).mono ?_;rintro e w2 ⟨rfl,rfl⟩)|(at_make;refine wpList_make (t:=tInt .i8) (S:=fun _=>False) (base:=w.heap.size) rfl _ _ rfl ei_b8 .i64 .i64 _ _ N rfl rfl rfl rfl ?_ ?_ ?_ 0 ⟨rfl,by decide⟩ (fun _ h=>h.elim) ?_;rotate_right;intro w3 hown hgr;have kb:Below w.heap.size w w3:=(Below.refl _ _).grown hgr (Nat.le_refl _) (by simp);have ON:=zH hown;replace FR:=zH (FR.out.fut kb);have lq:=hown.lt _ rfl;have g3:=zH (f2.out w3 kb);clear hown hgr kb)|(refine wpList_copyO (k:=.i8) rfl (.tmp 31) (.tmp 32) 23 23 rfl 22 Tryz.underlying23 (by kernel_rfl) ON.out 0 N N rfl ⟨g,0,none⟩ 1 1 rfl [v] f0.out f1.out g3.out f3.out ?_;intro w4 own4 g4))
 rotate_left
 ·omega
 ·unfold maxLen;omega
 ·omega
 have O4:=zH (show Own (tInt .i8) w4 (fun _=>False) w.heap.size 22 (.slice (some ⟨w.heap.size,0,none⟩) N N) N (List.replicate 1 v ++ List.replicate (N - 1) 0) by
  have:=rep_splice N 0 1 v (by omega)
  simp only [List.replicate_zero,List.nil_append,Nat.sub_zero,Nat.zero_add] at this
  rw [← this];exact own4)
 replace FR:=zH (FR.out.away g4 (Nat.le_refl _))
 have ON:=O4
 clear own4 g4 g3 f0 f1 f2 f3 O4 MU HC c1 n1 n2
 go_loopw [8] (fun ii wr=>∃ k:Nat,1≤k∧k≤N∧ii=.int .i64 k∧Far w wr∧Own (tInt .i8) wr (fun _=>False) w.heap.size 22 (.slice (some ⟨w.heap.size,0,none⟩) N N) N (List.replicate k v ++ List.replicate (N - k) 0)) (fun ii _=>N - (intOf ii).toNat)
 case atStart=>exact ⟨1,Nat.le_refl _,hN1,rfl,FR.out,ON.out⟩
 case round =>
  obtain ⟨k,hk1,hk2,rfl,f0,f1⟩:=hrel
  clear FR ON
  have FR:=zH f0
  have ON:=zH f1
  clear f0 f1
  by_cases hlt:k < N
  ·have p1:(k:Int) < (N:Int):=by omega
   obtain ⟨m,hm⟩:∃ m,Nat.min k (N - k)=m:=⟨_,rfl⟩
   have hm1:1≤m∧k+m≤N:=by rw [← hm];show 1≤min k (N - k)∧k+min k (N - k)≤N;omega
   have HM:=zH hm
   have ne:¬ N=k:=by omega
   have k0:0≤(k:Int):=by omega
   have k2:(k:Int)≤(N:Int):=by omega
   have e1:IntKind.i64.wrap ((k:Int)+(m:Int))=((k+m:Nat):Int):=(IntWalk.i64_in _ (by omega)).trans (by omega)
   clear hm
   have fd:Below w.heap.size w wr.drew:=FR.out.out.drew
   have O2:=zH (ON.out.heap (w':=wr.drew) rfl)
   have f0:=zH (show ∀ x ∈ List.replicate m v,InK .i8 x by intro x hx;rw [List.eq_of_mem_replicate hx];exact HV.out)
   have f1:=zH (show (List.replicate m v).length=Nat.min k (N - k) by rw [List.length_replicate];exact HM.out.symm)
   have f2:=zH (show ∀ j,j < (List.replicate m v).length → wr.drew.cell? ((⟨w.heap.size,0,none⟩:Addr).add j)=some (.int .i8 ((List.replicate m v).getD j 0)) by
    intro j hj
    rw [List.length_replicate] at hj
    have hmk:m≤k:=by rw [← HM.out];exact Nat.min_le_left _ _
    obtain ⟨x,u,hx,hu,hc,-⟩:=O2.out.cell rfl j (by omega)
    rw [List.getElem?_append_left (by rw [List.length_replicate];omega),List.getElem?_replicate,if_pos (by omega)] at hx
    injection hx with hx
    have hu1:=hu.1
    simp only [List.cons.injEq,and_true] at hu1
    have ha:(⟨w.heap.size,0,none⟩:Addr).add j=⟨w.heap.size,j,none⟩:=by unfold Addr.add;split <;> simp_all
    rw [ha,hc,hu1,List.getD_eq_getElem?_getD,List.getElem?_replicate,if_pos hj,hx]
    rfl)
   have f3:=zH (show k+(List.replicate m v).length≤N by rw [List.length_replicate];exact hm1.2)
   go_wp2_with fail
   refine wp_region_T (fun w'=>Below w.heap.size w w') 9 (by kernel_rfl) ?_ (fun hS=>?_)
   ·exact fd
   refine tkT 0 rfl (v:=?_) (Or.inl ⟨by rfl,?_⟩) hS ?_
   rotate_left
   ·intro w hSw;(try dsimp only at hSw);go_simp;try with_reducible rfl
   try simp only [pX]
   refine tkT 1 rfl (v:=?_) (Or.inl ⟨by rfl,?_⟩) hS ?_
   rotate_left
   ·intro w hSw;(try dsimp only at hSw);go_simp;try with_reducible rfl
   try simp only [pX]
   refine tkT 2 rfl (v:=?_) (Or.inl ⟨by rfl,?_⟩) hS ?_
   rotate_left
   ·intro w hSw;(try dsimp only at hSw);go_simp;try with_reducible rfl
   try simp only [pX]
   refine tkT 3 rfl (v:=?_) (Or.inl ⟨by rfl,?_⟩) hS ?_
   rotate_left
   ·intro w hSw;(try dsimp only at hSw);go_simp;try with_reducible rfl
   try simp only [pX]
   refine tkT 4 rfl (v:=?_) (Or.inl ⟨by rfl,?_⟩) hS ?_
   rotate_left
   ·intro w hSw;(try dsimp only at hSw);go_simp;try with_reducible rfl
   try simp only [pX]
   refine tkT 5 rfl (v:=?_) (Or.inl ⟨by rfl,?_⟩) hS ?_
   rotate_left
   ·intro w hSw;(try dsimp only at hSw);go_simp;try with_reducible rfl
   try simp only [pX]
   refine tkT 6 rfl (v:=?_) (Or.inl ⟨by rfl,?_⟩) hS ?_
   rotate_left
   ·intro w hSw;(try dsimp only at hSw);go_simp;try with_reducible rfl
   try simp only [pX]
   refine wpAnyT_one (i:=7) (by kernel_rfl) rfl rfl (fun K hK=>?_)
   (rw [if_pos (by rfl)];refine oper_copyO (k:=.i8) (.tmp 41) (.tmp 44) 23 23 rfl 22 Tryz.underlying23 (by kernel_rfl) O2.out k (N - k) (N - k) rfl ⟨w.heap.size,0,none⟩ k N rfl (List.replicate m v) f0.out f1.out f2.out f3.out ?_;intro w4 own4 g4;have O4:=zH own4;clear own4;refine hK.out _ _ (fd.grown g4 fd.size (fun k e=>by injection e with e;omega)) (fun hS=>?_))
   clear hK K
   try simp only [pX]
   refine tkT 8 rfl (v:=?_) (Or.inl ⟨by rfl,?_⟩) hS ?_
   rotate_left
   ·intro w hSw;(try dsimp only at hSw);go_simp;try with_reducible rfl
   try simp only [pX]
   refine wpAnyT_tail _ _ rfl rfl (by kernel_rfl) ?_
   have FZ:=zH (show Far w w4 from ⟨hS⟩)
   clear hS f0 f1 f2 f3 O2 g4 fd
   go_wp2_with fail
   have o5:=O4.out
   rw [rep_splice N k m v hm1.2] at o5
   exact ⟨⟨k+m,by omega,by omega,by go_num,FZ.out,o5⟩,by simp [intOf];omega⟩
  ·obtain rfl:k=N:=by omega
   go_wp2_with fail
   go_ret
   refine ⟨_,rfl,?_,FR.out.out⟩
   have:=ON.out
   rw [Nat.sub_self,List.replicate_zero,List.append_nil] at this
   exact this
end Go.Proofs.YtlbkekabmpienaaGreat
