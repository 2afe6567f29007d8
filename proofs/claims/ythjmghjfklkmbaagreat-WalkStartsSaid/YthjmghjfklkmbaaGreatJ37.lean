/-
  A bundle of its own (layer 35): bundle.Copy.
  What tells of one block behind the other what it costs (layer 31): cost.meter.
  What a bundle that may be tells of its shapes and costs.
  Exits (layer 30): the document's Check.
  The document's comparison of equal points (layer 36).
-/
import Derived.Test.YthjmghjfklkmbaaGreatJ33
import Derived.Test.YthjmghjfklkmbaaGreatJ36
set_option linter.unusedVariables false
set_option linter.unusedSimpArgs false
namespace Go.Proofs.YthjmghjfklkmbaaGreat
open Go.RowKit Go.ChangeShapes Go.WideShapes
set_option maxRecDepth 100000
set_option maxHeartbeats 4000000
def RetBun (u:Bun) (n:Nat) (w:World) (e:Ending) (w':World):Prop :=
 ∃ A cap,e=.returned (.agg #[.int .i64 u.h,.int .i64 u.v,.int .i64 u.c,.int .i64 u.cl,.slice A n cap])∧Sl tModel w' (bin w.heap.size w'.heap.size) A n cap u.models∧Below w.heap.size w w'
theorem set_same {α:Type} {l:List α} {k:Nat} {d:α} (h:l[k]?=some d):l.set k d=l:=by
 obtain ⟨h1,h2⟩:=List.getElem?_eq_some_iff.1 h
 rw [← h2,List.set_getElem_self]
theorem modelSize:tModel.size=1:=rfl
theorem blkSize:tBlk.size=5:=rfl
theorem bundleCopy_any (u:Bun) (A:Option Addr) (n cap:Nat) (w:World) (hu:Sl tModel w (blo w.heap.size) A n cap u.models) (hf:fewU u) (hn:1≤n) (h1:∀ m ∈ u.models,1≤m.length∧∀ b ∈ m,1≤b.nodes.length) :
  Calls Tryz.prog 19 #[.agg #[.int .i64 u.h,.int .i64 u.v,.int .i64 u.c,.int .i64 u.cl,.slice A n cap]] w (RetBun u n w):=by
 have n4:n≤4:=by have:=hf.1;rw [hu.n_eq] at this;exact this
 have FU:=zH (fun m hm=>And.intro (hf.2 m hm) (h1 m hm))
 have HU:=zH (Old.now hu)
 obtain ⟨ms,hms⟩:∃ x,u.models=x:=⟨_,rfl⟩
 obtain ⟨h0,hh⟩:∃ x,u.h=x:=⟨_,rfl⟩
 obtain ⟨v0,hv⟩:∃ x,u.v=x:=⟨_,rfl⟩
 obtain ⟨c0,hc⟩:∃ x,u.c=x:=⟨_,rfl⟩
 obtain ⟨l0,hl⟩:∃ x,u.cl=x:=⟨_,rfl⟩
 have HE:=zH (And.intro hms (And.intro hh (And.intro hv (And.intro hc hl))))
 rw [hms] at FU HU
 rw [hh,hv,hc,hl]
 clear hms hh hv hc hl hf h1 hu
 have H:=zH (Far.refl w)
 obtain ⟨w1,hw_w1,B1,k1⟩:=nB w #[.int .i64 h0,.int .i64 v0,.int .i64 c0,.int .i64 l0,.slice A n cap] 26
 replace H:=zN k1 H B1
 clear B1 k1
 obtain ⟨w2,hw_w2,B2,k2⟩:=nB w1 #[.int .i64 0,.int .i64 0,.int .i64 0,.int .i64 0,.slice none 0 0] 26
 replace H:=zN k2 H B2
 clear B2 k2
 have l1:w.heap.size < w1.heap.size:=by rw [← hw_w1];simp
 have l2:w1.heap.size < w2.heap.size:=by rw [← hw_w2];simp
 have CM:=zH (fun q=>cloneModel_any A n cap ms w2 (blo w2.heap.size) (fun _ h=>h) q (by omega))
 have cA:=fun i=>H.out.1.2.cell i
 go_enter Tryz.func19,Tryz.ntmps19
 go_wp2_with fail
 refine (CM.out (HU.out.fut H.out.1.1.out).all).mono ?_
 rintro e w3 ⟨v,rfl,ho,hb⟩
 have hoB:=ho.toB (Nat.le_of_ble_eq_true rfl)
 have g23:=zH hb
 clear ho cA CM
 rcases hoB with ⟨-,q,-⟩|⟨g,gc,cur0,rfl,hg,OB⟩
 ·omega
 have H2:=H
 clear H hb hw_w1 hw_w2
 go_wp2_with fail
 go_loopw [13] (fun i wr=>∃ (k:Nat) (S:Nat → Nat → Prop) (cur:Array Value),k≤n∧i=.int .i64 k∧OwnB tModel wr S g 58 n gc ms cur∧(∀ j x,j < n → S j x → x < wr.heap.size∧x ≠ g∧(j < k → w2.heap.size≤x))∧Below w2.heap.size w2 wr) (fun i _=>n - (intOf i).toNat)
 case atStart=>exact ⟨0,_,cur0,Nat.zero_le _,rfl,OB,fun j x hj hx=>⟨Nat.lt_of_lt_of_le (show x < w2.heap.size from hx) g23.out.size,fun e=>absurd (show x < w2.heap.size from hx) (by omega),fun h=>by omega⟩,g23.out⟩
 case round =>
  clear OB
  obtain ⟨k,S,cur,hk,rfl,hO,hS,hb2⟩:=hrel
  obtain ⟨wo,hwo⟩:∃ x,x=wr:=⟨_,rfl⟩
  subst hwo
  have OB:=zH hO
  have SS:=zH hS
  have H:=zF hb2 H2
  have zr:=hb2.size
  have G2:=zH hb2
  have hgr:=hO.blk.lt
  clear hO hS hb2
  by_cases hlt:k < n
  ·have p1:(k:Int) < (n:Int):=by omega
   have gi:IntKind.i64.wrap ((k:Int)+1)=((k+1:Nat):Int):=(IntWalk.i64_in _ (by omega)).trans (by simp)
   have hkl:k < ms.length:=by rw [OB.out.len];exact hlt
   have hd:ms[k]?=some ms[k]:=List.getElem?_eq_getElem hkl
   obtain ⟨m,hm⟩:∃ m,ms[k]=m:=⟨_,rfl⟩
   rw [hm] at hd
   obtain ⟨A',c',hc,hA⟩:=tSlice_iff.1 (OB.out.at_ k m hd)
   have HC:=zH hc
   rw [modelSize,Nat.mul_one] at HC
   obtain ⟨⟨m8,fm⟩,m1,fm1⟩:=FU.out m (List.mem_of_getElem? hd)
   have FM:=zH (fun b hb=>And.intro (fm b hb) (fm1 b hb))
   obtain ⟨n',hn'⟩:∃ x,m.length=x:=⟨_,rfl⟩
   rw [hn'] at hA HC m8 m1
   have HD:=zH hd
   have HA:=zH hA
   have RG:=zH (show wo.rangeAt g k [.slice A' n' c'] from fun j v hv=>by
    rw [OB.out.blk.cell,← Array.getElem?_toList]
    rw [← HC.out] at hv
    exact drop_get hv)
   clear hd hm hc hA hkl fm fm1
   go_wp2_with (first|(refine lM 58 (.tmp 16) RG.out Tryz.underlying58 ?_)|(refine sF 58 (.tmp 5) (.tmp 17) #[.slice A' n' c'] ?_;intro w5 b5 k5;have HX:=zN k5 (zH (Far.refl wo)) b5;have cB:=fun i=>HX.out.2.cell i;clear b5 k5))
   have z5:=HX.out.1.size
   refine (cloneBlock_any A' n' c' m w5 (S k) (fun x hx=>Nat.lt_of_lt_of_le (SS.out k x hlt hx).1 z5) (HA.out.below HX.out.1.out fun x hx=>(SS.out k x hlt hx).1) (by omega)).mono ?_
   rintro e w6 ⟨v,rfl,ho,hb⟩
   have hoB:=ho.toB (Nat.le_of_ble_eq_true rfl)
   have z6:=hb.size
   replace HX:=zF hb HX
   clear ho cB RG hb
   rcases hoB with ⟨-,q,-⟩|⟨gb,bc,cui0,rfl,hgb,OI⟩
   ·omega
   have OC:=zH (And.intro OB.out.size OB.out.le)
   rw [modelSize,Nat.mul_one] at OC
   have f0:k < cur.size:=by rw [OC.out.1];have:=OC.out.2;omega
   obtain ⟨cur1,hc1⟩:∃ c:Array Value,c.toList=cur.toList.take k ++ [.slice (some ⟨gb,0,none⟩) n' bc] ++ cur.toList.drop (k+1):=⟨_,List.toList_toArray⟩
   have f1:k < cur1.size:=by rw [← Array.length_toList,hc1,List.length_append,List.length_append,List.length_take,List.length_drop,Array.length_toList];simp;omega
   have e1:cur1[k]?=some (.slice (some ⟨gb,0,none⟩) n' bc):=by
    rw [← Array.getElem?_toList,hc1,List.getElem?_append_left (by rw [List.length_append,List.length_take,Array.length_toList];simp;omega),List.getElem?_append_right (by rw [List.length_take,Array.length_toList];omega),List.length_take,Array.length_toList,Nat.min_eq_left (by omega),Nat.sub_self]
    rfl
   have C1:=zH hc1
   have E1:=zH e1
   clear hc1 f1 e1
   have OB6:=zH (OB.out.fut HX.out.1.out fun j x hj hs=>(SS.out j x hj hs).1).blk
   have F6:=zH (below_grown (r:=some g) HX.out.1.out)
   go_wp2_with (first|(refine wpList_store_one rfl _ (.tmp 24) (.tmp 22) rfl g k (.slice (some ⟨gb,0,none⟩) n' bc) rfl rfl rfl rfl _ cur cur1 OB6.out f0 (by kernel_rfl) C1.out ?_;intro w7 b7 g7;have HM:=zA g7 (zH HX.out.2);have cB:=fun i=>HM.out.cell i))
   go_loopw [28] (fun i wr=>∃ (q:Nat) (T:Nat → Nat → Prop) (cui:Array Value),q≤n'∧i=.int .i64 q∧OwnB tBlk wr T gb 65 n' bc m cui∧(∀ j x,j < n' → T j x → x < wr.heap.size∧x ≠ g∧x ≠ gb∧(j < q → w2.heap.size≤x))∧Blk wr g 58 cur1∧wo.grownBy wr (some g)) (fun i _=>n' - (intOf i).toNat)
   case atStart=>exact ⟨0,_,cui0,Nat.zero_le _,rfl,OI.away g7 (by omega) (fun j x hj hx=>⟨Nat.lt_of_lt_of_le (SS.out k x hlt hx).1 (by omega),(SS.out k x hlt hx).2.1⟩),fun j x hj hx=>by have hs:=SS.out k x hlt hx;have z7:=g7.size;exact ⟨by omega,hs.2.1,by omega,fun h=>by omega⟩,b7,F6.out.trans g7⟩
   case round =>
    clear OI OB6 F6 HX b7 g7 HM cB
    obtain ⟨q,T,cui,hq,rfl,hO,hT,b8,g8⟩:=hrel
    obtain ⟨wi,hwi⟩:∃ x,x=wr:=⟨_,rfl⟩
    subst hwi
    have OI:=zH hO
    have TT:=zH hT
    have G8:=zH (And.intro b8 g8)
    have z8:=g8.size
    replace H:=zA g8 H
    have hgi:=hO.blk.lt
    clear hO hT b8 g8
    by_cases hlq:q < n'
    ·have p2:(q:Int) < (n':Int):=by omega
     have gq:IntKind.i64.wrap ((q:Int)+1)=((q+1:Nat):Int):=(IntWalk.i64_in _ (by omega)).trans (by simp)
     have KS:=zH (fun x (hx:S k x)=>Nat.lt_of_lt_of_le (SS.out k x hlt hx).1 z8)
     have HB:=zH (HA.out.keep fun x hx=>G8.out.2.block x (SS.out k x hlt hx).1 (fun e=>(SS.out k x hlt hx).2.1 (Option.some.inj e)))
     obtain ⟨b,ga,oa,L,nl,cl,W,nw,cw,B,nb,cb,hb,rfl,hga,rg,hat⟩:=HB.out.blk_at q hlq
     have HD2:=zH hb
     have RG:=zH rg
     have AT:=zH hat
     have FB:=FM.out b (List.mem_of_getElem? hb)
     have CB:=zH (fun w q=>copiedBlock_any b L nl cl W nw cw B nb cb w q FB.1 (by rw [← hat.nodes.n_eq];exact FB.2))
     clear hb rg hat HB
     go_upto_region 9 with (first|(refine lM 65 (.tmp 31) RG.out Tryz.underlying65 ?_)|(refine sF 65 (.tmp 7) (.tmp 32) #[.slice L nl cl,.bool b.exit,.slice W nw cw,.slice B nb cb,.int .i32 b.head.need] ?_;intro w9 b9 k9;have HX:=zN k9 (zH (Far.refl wi)) b9;clear b9 k9))
     replace HX:=zD w9 HX
     have y9:=HX.out.1.size
     refine wp_region_T (fun w'=>w'.cell? ⟨g,k,none⟩=some (.slice (some ⟨gb,0,none⟩) n' bc)∧Blk w' wi.heap.size 65 #[.slice L nl cl,.bool b.exit,.slice W nw cw,.slice B nb cb,.int .i32 b.head.need]∧Below w9.heap.size w9 w') 8 (by kernel_rfl) ?_ (fun hS=>?_)
     ·exact ⟨((G8.out.1.fut HX.out.1.out).cell k).trans E1.out,HX.out.2,(Below.refl _ _).drew⟩
     refine kT 0 rfl hS ?_
     try simp only [pX]
     refine kT 1 rfl hS ?_
     try simp only [pX]
     refine kT 2 rfl hS ?_
     try simp only [pX]
     refine kT 3 rfl hS ?_
     try simp only [pX]
     refine kT 4 rfl hS ?_
     try simp only [pX]
     refine kT 5 rfl hS ?_
     try simp only [pX]
     refine tkT 6 rfl (yB 65 (.tmp 7) wi.heap.size (fun w hs=>hs.2.1) Tryz.underlying65) hS ?_
     try simp only [pX]
     refine wpAnyT_one (i:=7) (by kernel_rfl) rfl rfl (fun K hK=>?_)
     go_simp
     refine (CB.out _ (AT.out.keep (fun x hx=>HX.out.1.out.block x (KS.out x hx)) (fun x hx=>Nat.lt_of_lt_of_le (KS.out x hx) HX.out.1.size))).mono ?_;rintro e w10 ⟨L2,c2,W2,d2,B2,f2,rfl,hat,hb⟩;have AT2:=zH hat;have z10:=hb.size;replace HX:=zF hb HX;clear hat
     refine hK.out _ _ ?_ (fun hS=>?_)
     ·exact ⟨(by first|exact cell_later hb hS.1|exact Blk.later hS.1 hb),(by first|exact cell_later hb hS.2.1|exact Blk.later hS.2.1 hb),(by first|exact below_later hb hS.2.2|exact grown_below hS.2.2 hb)⟩
     clear hK K
     try simp only [pX]
     refine wpAnyT_tail _ _ rfl rfl (by kernel_rfl) ?_
     have F10:=zH HX.out.1.out
     have z9:=F10.out.size
     clear hS hb HX CB AT
     have OJ:=zH (OI.out.fut F10.out fun j x hj hs=>(TT.out j x hj hs).1)
     have OD:=zH (And.intro OJ.out.size OJ.out.le)
     rw [blkSize] at OD
     have z2:(q+1)*5≤bc*5:=Nat.mul_le_mul_right _ (by have:=OD.out.2;omega)
     have F0:=zH (show q*5+5≤cui.size by rw [OD.out.1];omega)
     obtain ⟨cui1,hc2⟩:∃ c:Array Value,c.toList=cui.toList.take (q*5) ++ [.slice L2 nl c2,.bool b.exit,.slice W2 nw d2,.slice B2 nb f2,.int .i32 b.head.need] ++ cui.toList.drop (q*5+5):=⟨_,List.toList_toArray⟩
     have C2:=zH hc2
     clear hc2
     go_wp2_with (refine wpList_store_blk rfl _ (.tmp 41) (.tmp 40) rfl gb (q*5) #[.slice L2 nl c2,.bool b.exit,.slice W2 nw d2,.slice B2 nb f2,.int .i32 b.head.need] rfl rfl _ cui cui1 OJ.out.blk F0.out (by kernel_rfl) (by rw [← Array.all_toList];rfl) C2.out ?_;intro w11 b11 g11)
     have z11:=g11.size
     have hO2:OwnB tBlk w11 (fun j x=>(j ≠ q∧T j x) ∨ (j=q∧wi.heap.size≤x∧x < w11.heap.size)) gb 65 n' bc (m.set q b) cui1:=by
      refine OJ.out.put (o:=0) (ps:=[.slice L2 nl c2,.bool b.exit,.slice W2 nw d2,.slice B2 nb f2,.int .i32 b.head.need]) hlq g11 b11 (by rw [C2.out,blkSize];rfl) (Nat.le_of_ble_eq_true rfl) (fun j x hj hjq hs=>⟨.inl ⟨hjq,hs⟩,Nat.lt_of_lt_of_le (TT.out j x hj hs).1 z9,(TT.out j x hj hs).2.2.1⟩) ?_
      rw [blkSize,List.take_zero,List.nil_append,List.drop_of_length_le (by rw [List.length_take];exact Nat.min_le_left _ _),List.append_nil]
      exact blk_rep (AT2.out.keep (fun x hx=>g11.block x hx.2 fun e=>by have:=Option.some.inj e;have:=hx.1;omega) fun x hx=>.inr ⟨rfl,Nat.le_trans y9 hx.1,Nat.lt_of_lt_of_le hx.2 z11⟩)
     rw [set_same HD2.out] at hO2
     refine ⟨⟨q+1,_,cui1,by omega,by go_num,hO2,?_,(G8.out.1.fut F10.out).away g11 (by omega),grown_new (G8.out.2.trans (below_grown F10.out)) g11 (by omega)⟩,by simp [intOf];omega⟩
     rintro j x hj (⟨hjk,hs⟩|⟨rfl,h1,h2⟩)
     ·have:=TT.out j x hj hs
      exact ⟨by omega,this.2.1,this.2.2.1,fun h=>this.2.2.2 (by omega)⟩
     ·exact ⟨h2,by omega,by omega,fun _=>by omega⟩
    ·obtain rfl:n'=q:=by omega
     have p2:¬ (n':Int) < (n':Int):=by omega
     go_wp2_with fail
     have hO2:OwnB tModel wi (fun j x=>(j ≠ k∧S j x) ∨ (j=k∧w2.heap.size≤x∧x < wi.heap.size∧x ≠ g)) g 58 n gc (ms.set k m) cur1:=by
      refine OB.out.put (o:=0) (ps:=[.slice (some ⟨gb,0,none⟩) n' bc]) hlt G8.out.2 G8.out.1 (by rw [C1.out,modelSize,Nat.mul_one];rfl) (Nat.le_of_ble_eq_true rfl) (fun j x hj hjk hs=>⟨.inl ⟨hjk,hs⟩,(SS.out j x hj hs).1,(SS.out j x hj hs).2.1⟩) ?_
      rw [modelSize,List.take_zero,List.nil_append,List.drop_of_length_le (by rw [List.length_take];exact Nat.min_le_left _ _),List.append_nil]
      rw [← hn']
      exact tSlice_iff.2 ⟨_,_,rfl,by rw [hn'];exact OI.out.sl (.inr ⟨rfl,by omega,hgi,by omega⟩) fun j x hj hs=>.inr ⟨rfl,(TT.out j x hj hs).2.2.2 hj,(TT.out j x hj hs).1,(TT.out j x hj hs).2.1⟩⟩
     rw [set_same HD.out] at hO2
     refine ⟨⟨k+1,_,cur1,by omega,by go_num,hO2,?_,G2.out.grown G8.out.2 (by omega) (fun x hx=>by have:=Option.some.inj hx;omega)⟩,by simp [intOf];omega⟩
     rintro j x hj (⟨hjk,hs⟩|⟨rfl,h1,h2,h3⟩)
     ·have:=SS.out j x hj hs
      exact ⟨by omega,this.2.1,fun h=>this.2.2 (by omega)⟩
     ·exact ⟨h2,h3,fun _=>h1⟩
  ·obtain rfl:n=k:=by omega
   have p1:¬ (n:Int) < (n:Int):=by omega
   go_wp2_with (first
    | (refine wpList_store_one rfl _ (.tmp 45) (.tmp 44) rfl w.heap.size 4 (.slice (some ⟨g,0,none⟩) n gc) rfl rfl rfl rfl _ _ #[.int .i64 h0,.int .i64 v0,.int .i64 c0,.int .i64 l0,.slice (some ⟨g,0,none⟩) n gc] H.out.1.2 (by simp) (by kernel_rfl) rfl ?_;intro w5 b5 g5;have O5:=zH (OB.out.away g5 (by omega) fun j x hj hs=>⟨(SS.out j x hj hs).1,by have:=(SS.out j x hj hs).2.2 hj;omega⟩);replace H:=zH (And.intro (And.intro (H.out.1.1.away g5 (Nat.le_refl _)) b5) (H.out.2.away g5 (by omega)));have z5:=g5.size;clear b5 g5)
    | (refine lB 26 (.tmp 1) w.heap.size H.out.1.2 Tryz.underlying26 ?_)
    | (refine sB 26 (.tmp 2) (.tmp 46) w1.heap.size #[.int .i64 h0,.int .i64 v0,.int .i64 c0,.int .i64 l0,.slice (some ⟨g,0,none⟩) n gc] H.out.2 ?_;intro w7 b7 g7;have F7:=zA g7 (zH H.out.1.1);have O7:=zH (O5.out.away g7 (by omega) fun j x hj hs=>⟨Nat.lt_of_lt_of_le (SS.out j x hj hs).1 z5,by have:=(SS.out j x hj hs).2.2 hj;omega⟩);have z7:=g7.size;clear g7))
   refine ret_cell rfl b7 rfl Tryz.underlying26 (by kernel_rfl) rfl ?_
   refine ⟨some ⟨g,0,none⟩,gc,by rw [HE.out.2.1,HE.out.2.2.1,HE.out.2.2.2.1,HE.out.2.2.2.2],?_,F7.out.out⟩
   rw [HE.out.1]
   refine O7.out.sl ⟨by omega,by omega⟩ fun j x hj hs=>⟨?_,?_⟩
   ·have:=(SS.out j x hj hs).2.2 hj;omega
   ·have:=(SS.out j x hj hs).1;omega
def mtr (g1 g2:Nat):Value:=.func (.func 51) #[] #[.pointer (some ⟨g1,0,none⟩),.pointer (some ⟨g2,0,none⟩)]
theorem meter_any (s1 s2 s3 c:Int) (w:World) :
  Calls Tryz.prog 34 #[.agg (sN s1 s2 s3),.int .i64 c] w fun e w'=>∃ g1 g2,e=.returned (mtr g1 g2)∧w.heap.size≤g1∧g1 < g2∧Blk w' g1 23 (sN s1 s2 s3)∧Blk w' g2 3 #[.int .i64 c]∧Below w.heap.size w w':=by
 have H:=zH (Far.refl w)
 obtain ⟨w1,hw_w1,B1,k1⟩:=nB w (sN s1 s2 s3) 23
 replace H:=zN k1 H B1
 obtain ⟨w2,hw_w2,B2,k2⟩:=nB w1 #[.int .i64 c] 3
 replace H:=zN k2 H B2
 have l1:w.heap.size < w1.heap.size:=by rw [← hw_w1];simp
 clear B1 k1 B2 k2
 go_enter Tryz.func34,Tryz.ntmps34
 go_wp2_with fail
 go_ret
 exact ⟨w.heap.size,w1.heap.size,rfl,Nat.le_refl _,l1,H.out.1.2,H.out.2,H.out.1.1.out⟩
theorem meter1_any (b:BlkD) (L:Option Addr) (nl cl:Nat) (W:Option Addr) (nw cw:Nat) (B:Option Addr) (nb cb:Nat) (s1 s2 s3 c:Int) (g1 g2 n0:Nat) (w:World) (hb:BlkAt b L nl cl W nw cw B nb cb (blo n0) w) (hn:n0≤g1) (hg:g1 < g2)
  (b1:Blk w g1 23 (sN s1 s2 s3)) (b2:Blk w g2 3 #[.int .i64 c]) (hs:InK .i64 s1∧InK .i64 s2∧InK .i64 s3) (hf:fewB b) (ok:(shapesV b.nodes (s1,s2,s3)).2.2=0) (hcl:2≤c∧c≤16) :
  Calls Tryz.prog 51 #[.agg #[.slice L nl cl,.bool b.exit,.slice W nw cw,.slice B nb cb,.int .i32 b.head.need],.pointer (some ⟨g1,0,none⟩),.pointer (some ⟨g2,0,none⟩)] w fun e w'=>e=.returned (.tuple #[.int .i64 (blockC b (s1,s2,s3) c),.int .i64 0])∧Blk w' g1 23 (sN (outV b (s1,s2,s3)).1 (outV b (s1,s2,s3)).2.1 (outV b (s1,s2,s3)).2.2)∧w.grownBy w' (some g1):=by
 have z1:=b1.lt
 have z2:=b2.lt
 have AT:=zH (hb.keep (S':=blo w.heap.size) (fun _ _=>rfl) (fun x (hx:x < n0)=>show x < w.heap.size by omega))
 have CB:=zH (fun w h=>costBlock_any b L nl cl W nw cw B nb cb (s1,s2,s3) c w h hs hf ok hcl)
 have CO:=zH (fun w h=>costOut_any b L nl cl W nw cw B nb cb (s1,s2,s3) w h hs hf ok)
 obtain ⟨bc,hbc⟩:∃ x,blockC b (s1,s2,s3) c=x:=⟨_,rfl⟩
 obtain ⟨⟨x1,x2,x3⟩,hx⟩:∃ x,outV b (s1,s2,s3)=x:=⟨_,rfl⟩
 rw [hbc] at CB
 rw [hbc]
 simp only [hx] at CO
 simp only [hx]
 obtain ⟨need,hnd⟩:∃ x,b.head.need=x:=⟨_,rfl⟩
 obtain ⟨ex,hex⟩:∃ x,b.exit=x:=⟨_,rfl⟩
 simp only [hnd,hex] at CB CO
 rw [hnd,hex]
 have H:=zH (And.intro (And.intro (Far.refl w) b1) b2)
 clear hbc hx hnd hex hb hs hf ok hcl b1 b2
 obtain ⟨w1,hw_w1,B1,k1⟩:=nB w #[.slice L nl cl,.bool ex,.slice W nw cw,.slice B nb cb,.int .i32 need] 65
 replace H:=zN k1 H B1
 clear B1 k1
 have cA:=H.out.1.2.cell 0
 go_enter Tryz.func51,Tryz.ntmps51
 go_wp2_with (first|(refine lB 65 (.tmp 3) w.heap.size H.out.2 Tryz.underlying65 ?_)|(refine lB 23 (.tmp 1) g1 H.out.1.1.2 Tryz.underlying23 ?_))
 refine (CB.out _ (AT.out.fut H.out.1.1.1.out)).mono ?_
 rintro e w2 ⟨rfl,hb⟩
 replace H:=zF hb H
 clear hb cA CB hw_w1
 go_wp2_with (first|(refine lB 65 (.tmp 3) w.heap.size H.out.2 Tryz.underlying65 ?_)|(refine lB 23 (.tmp 1) g1 H.out.1.1.2 Tryz.underlying23 ?_))
 refine (CO.out _ (AT.out.fut H.out.1.1.1.out)).mono ?_
 rintro e w3 ⟨rfl,hb⟩
 replace H:=zF hb H
 clear hb CO
 go_wp2_with (refine sB 23 (.tmp 1) (.tmp 22) g1 (sN x1 x2 x3) H.out.1.1.2 ?_;intro w4 b4 g4)
 go_ret2
 exact ⟨rfl,b4,(below_grown H.out.1.1.1.out).trans g4⟩
end Go.Proofs.YthjmghjfklkmbaaGreat
namespace Go.Proofs.YthjmghjfklkmbaaGreat
open Go.RowKit
theorem shapes_good {l:List Node} {s:Sh3} (h:(shapesV l s).2.2=0):GoodS ((shapesV l s).1.getD l.length (0,0,0)):=by
 unfold shapesV at h ⊢
 split at h
 ·cases h
 split at h
 ·cases h
 split at h
 ·cases h
 rename_i c1 c2 c3
 rw [if_neg c1,if_neg c2,if_neg c3]
 obtain ⟨k,hk⟩:∃ k,l.length=k+1:=⟨l.length - 1,by omega⟩
 rw [hk] at h ⊢
 cases hr:runS l s (k+1) with
 | bad i e=>rw [hr] at h;exact absurd h (runS_err _ hr)
 | on out =>
  have hl:=(runS_ok _ hr).len
  unfold runS at hr
  cases hq:runS l s k with
  | bad i e=>rw [hq] at hr;cases hr
  | on o =>
   rw [hq] at hr
   simp only at hr
   by_cases c:(nextV (l.getD k noNode) o).2=0
   ·rw [if_neg (by simpa using c)] at hr
    cases hr
    have ho:o.length=k+1:=by simpa using hl
    show GoodS ((o ++ [(nextV (l.getD k noNode) o).1]).getD (k+1) (0,0,0))
    rw [List.getD_eq_getElem?_getD,List.getElem?_append_right (by omega),ho,Nat.sub_self]
    exact nextV_good c
   ·rw [if_pos c] at hr;cases hr
theorem GoodS.in_ {x y z:Int} (h:GoodS (x,y,z)):InK .i64 x∧InK .i64 y∧InK .i64 z:=by
 have h1:=h.h
 have h2:=h.v
 have h3:=h.c
 simp only at h1 h2 h3
 exact ⟨by rw [inK_i64];omega,by rw [inK_i64];omega,by rw [inK_i64];omega⟩
theorem inV_good {m:List BlkD} {s:Sh3} {cl:Int} (h:ModelOk m s cl) (hs:GoodS s):∀ {k:Nat},k≤m.length → GoodS (inV m s k)
 | 0,_=>hs
 | k+1,hk=>shapes_good (h.blocks k hk).shapes
theorem rowC_len (m:List BlkD) (s:Sh3) (cl:Int):(rowC m s cl).length=m.length:=by unfold rowC;rw [List.length_map,List.length_range]
theorem rowC_at {m:List BlkD} {s:Sh3} {cl:Int} {k:Nat} (h:k < m.length):(rowC m s cl)[k]?=some (blockC (m.getD k noBlk) (inV m s k) cl):=by
 unfold rowC
 rw [List.getElem?_map,List.getElem?_range h]
 rfl
theorem blockC_bd {b:BlkD} {s:Sh3} {cl:Int} (h:(shapesV b.nodes s).2.2=0):1≤blockC b s cl∧blockC b s cl≤300000000:=by
 have h1:=sumC_bd b.nodes (shapesV b.nodes s).1 b.nodes.length
 have h2:=exitC_bd b (outV b s) cl
 have h3:=(shapes_few h).2
 unfold blockC
 omega
theorem blockC_in {b:BlkD} {s:Sh3} {cl:Int} (h:(shapesV b.nodes s).2.2=0):InK .i64 (blockC b s cl):=by
 have:=blockC_bd (cl:=cl) h
 rw [inK_i64];omega
theorem BunOk.good {u:Bun} (h:BunOk u):GoodS (u.h,u.v,u.c):=GoodS.of h.input
theorem BunOk.model {u:Bun} (h:BunOk u) {k:Nat} {m:List BlkD} (hm:u.models[k]?=some m):ModelOk m (u.h,u.v,u.c) u.cl:=by
 have:=h.models k (List.getElem?_eq_some_iff.1 hm).1
 rwa [getD_at hm] at this
theorem tableC_at {u:Bun} {k:Nat} {m:List BlkD} (hm:u.models[k]?=some m):(tableC u)[k]?=some (rowC m (u.h,u.v,u.c) u.cl):=by
 unfold tableC
 rw [List.getElem?_map,hm]
 rfl
theorem insV_at {m:List BlkD} {s:Sh3} {k:Nat} (h:k≤m.length):(insV m s)[k]?=some (inV m s k):=by
 unfold insV
 rw [List.getElem?_map,List.getElem?_range (by omega)]
 rfl
theorem insU_at {u:Bun} {k:Nat} {m:List BlkD} (hm:u.models[k]?=some m):(insU u)[k]?=some (insV m (u.h,u.v,u.c)):=by
 unfold insU
 rw [List.getElem?_map,hm]
 rfl
end Go.Proofs.YthjmghjfklkmbaaGreat
namespace Go.Proofs.YthjmghjfklkmbaaGreat
open Go.RowKit Go.ChangeShapes Go.WideShapes
set_option maxRecDepth 100000
set_option maxHeartbeats 4000000
theorem refCheck_any (h v c:Int) (W:Option Addr) (nw cw:Nat) (B:Option Addr) (nb cb:Nat) (need cl:Int) (w:World) (h0:InK .i64 h) (h1:InK .i64 v) (h2:InK .i64 c) (hnw:nw≤maxLen) (hnb:nb≤maxLen) (hcl:InK .i64 cl) :
  Calls Tryz.prog 37 #[.agg (sN h v c),.agg #[.slice W nw cw,.slice B nb cb,.int .i32 need],.int .i64 cl] w fun e w' =>
   e=.returned (.int .i64 (checkI (elems h v c) nw nb need cl))∧Below w.heap.size w w':=by
 have H:=zH (And.intro h0 (And.intro h1 h2))
 unfold maxLen at hnw hnb
 rw [inK_i64] at hcl
 clear h0 h1 h2
 obtain ⟨mb1,mb2⟩:=elems_bdv h v c
 have EL:=zH (fun w=>relems_any h c v w H.out.1 H.out.2.1 H.out.2.2)
 generalize elems h v c=m at *
 have FR:=zH (Far.refl w)
 obtain ⟨w1,hw_w1,BS,k_w1⟩:=nB w (sN h v c) 23
 replace FR:=zH (FR.out.fut k_w1)
 clear k_w1
 obtain ⟨w2,hw_w2,BH,k_w2⟩:=nB w1 #[.slice W nw cw,.slice B nb cb,.int .i32 need] 63
 replace FR:=zH (FR.out.fut k_w2)
 replace BS:=zH (BS.out.fut k_w2)
 clear k_w2
 have cS:=fun i=>BS.out.cell i
 have cH:=fun i=>BH.out.cell i
 by_cases z:m=0
 ·subst z
  have C:=zH (show (5:Int)=checkI 0 nw nb need cl by unfold checkI;rw [if_pos rfl])
  go_enter Tryz.func37,Tryz.ntmps37
  go_wp2_with fail
  clear hw_w1 hw_w2
  refine (EL.out _).mono ?_
  rintro e w3 ⟨rfl,hb⟩
  replace FR:=zH (FR.out.fut hb)
  clear hb
  go_wp2_with fail
  go_ret
  exact ⟨ret_int C.out,FR.out.out⟩
 have t0:(m == 0)=false:=by simp;exact z
 by_cases c1:cl < 2
 ·have t1:decide (cl < 2)=true:=by simp;exact c1
  have C:=zH (show (2:Int)=checkI m nw nb need cl by unfold checkI;rw [if_neg z,if_pos (.inl c1)])
  clear z c1
  go_enter Tryz.func37,Tryz.ntmps37
  go_wp2_with fail
  clear hw_w1 hw_w2
  refine (EL.out _).mono ?_
  rintro e w3 ⟨rfl,hb⟩
  replace FR:=zH (FR.out.fut hb)
  clear hb
  go_wp2_with fail
  go_ret
  exact ⟨ret_int C.out,FR.out.out⟩
 have t1:decide (cl < 2)=false:=by simp;omega
 by_cases c2:16 < cl
 ·have t2:decide (16 < cl)=true:=by simp;exact c2
  have C:=zH (show (2:Int)=checkI m nw nb need cl by unfold checkI;rw [if_neg z,if_pos (.inr c2)])
  clear z c1 c2
  go_enter Tryz.func37,Tryz.ntmps37
  go_wp2_with fail
  clear hw_w1 hw_w2
  refine (EL.out _).mono ?_
  rintro e w3 ⟨rfl,hb⟩
  replace FR:=zH (FR.out.fut hb)
  clear hb
  go_wp2_with fail
  go_ret
  exact ⟨ret_int C.out,FR.out.out⟩
 have t2:decide (16 < cl)=false:=by simp;omega
 have pb:0≤cl*m∧cl*m≤16*1024:=⟨Int.mul_nonneg (by omega) (by omega),Int.mul_le_mul (by omega) (by omega) (by omega) (by omega)⟩
 have C0:checkI m nw nb need cl=if (nw:Int) ≠ cl*m ∨ 16384 < nw ∨ (nb:Int) ≠ cl then 9 else if need < 0 then 11 else 0:=by unfold checkI;rw [if_neg z,if_neg (by omega)]
 have CC:=zH C0
 have e1:IntKind.i64.wrap (cl*m)=cl*m:=IntWalk.i64_in _ (by omega)
 clear C0
 obtain ⟨p,hp⟩:∃ p,cl*m=p:=⟨_,rfl⟩
 rw [hp] at e1 CC pb
 have e2:IntKind.i64.wrap (cl*m)=p:=by rw [hp];exact e1
 have E2:=zH e2
 clear hp e1 c1 c2 z e2
 obtain ⟨r,hr⟩:∃ r,checkI m nw nb need cl=r:=⟨_,rfl⟩
 rw [hr]
 have HR:=zH hr
 clear hr
 go_enter Tryz.func37,Tryz.ntmps37
 go_wp2_with fail
 clear hw_w1 hw_w2 cS cH
 refine (EL.out _).mono ?_
 rintro e w3 ⟨rfl,hb⟩
 replace FR:=zH (FR.out.fut hb)
 replace BH:=zH (BH.out.fut hb)
 replace BS:=zH (BS.out.fut hb)
 clear hb
 go_wp2_with fail
 have cH:∀ (x:Ext w3) (i:Nat),x.1.cell? ⟨w1.heap.size,i,none⟩=(#[.slice W nw cw,.slice B nb cb,.int .i32 need]:Array Value)[i]?:=fun x i=>(BH.out.ext x).cell i
 have cS:∀ (x:Ext w3) (i:Nat),x.1.cell? ⟨w.heap.size,i,none⟩=((sN h v c):Array Value)[i]?:=fun x i=>(BS.out.ext x).cell i
 have E1:=zH (fun x:Ext w3=>calls_ext x (EL.out x.1))
 have e2:=E2.out
 have t3:(((nw:Int) != p)=true∧(if (nw:Int) ≠ p ∨ 16384 < nw ∨ (nb:Int) ≠ cl then (9:Int) else if need < 0 then 11 else 0)=9) ∨
   (((nw:Int) != p)=false∧((decide ((16384:Int) < (nw:Int))=true∧(if (nw:Int) ≠ p ∨ 16384 < nw ∨ (nb:Int) ≠ cl then (9:Int) else if need < 0 then 11 else 0)=9) ∨
    (decide ((16384:Int) < (nw:Int))=false∧((((nb:Int) != cl)=true∧(if (nw:Int) ≠ p ∨ 16384 < nw ∨ (nb:Int) ≠ cl then (9:Int) else if need < 0 then 11 else 0)=9) ∨
     (((nb:Int) != cl)=false∧((decide (need < 0)=true∧(if (nw:Int) ≠ p ∨ 16384 < nw ∨ (nb:Int) ≠ cl then (9:Int) else if need < 0 then 11 else 0)=11) ∨
      (decide (need < 0)=false∧(if (nw:Int) ≠ p ∨ 16384 < nw ∨ (nb:Int) ≠ cl then (9:Int) else if need < 0 then 11 else 0)=0))))))):=by
  by_cases d1:(nw:Int)=p
  ·right
   refine ⟨by simp;exact d1,?_⟩
   by_cases d2:16384 < nw
   ·left;exact ⟨by simp;omega,by rw [if_pos (.inr (.inl d2))]⟩
   ·right
    refine ⟨by simp;omega,?_⟩
    by_cases d3:(nb:Int)=cl
    ·right
     refine ⟨by simp;exact d3,?_⟩
     rw [if_neg (by omega)]
     by_cases d4:need < 0
     ·left;exact ⟨by simp;exact d4,by rw [if_pos d4]⟩
     ·right;exact ⟨by simp;omega,by rw [if_neg d4]⟩
    ·left;exact ⟨by simp;exact d3,by rw [if_pos (.inr (.inr d3))]⟩
  ·left;exact ⟨by simp;exact d1,by rw [if_pos (.inl d1)]⟩
 rcases t3 with ⟨t3,e⟩|⟨t3,⟨t4,e⟩|⟨t4,⟨t5,e⟩|⟨t5,⟨t6,e⟩|⟨t6,e⟩⟩⟩⟩
 all_goals
  have E:=zH e
  clear e
  refine wp_region_ext w3 (by kernel_rfl) (by kernel_rfl) (Below.refl _ _) ?_
  repeat (go_big_quiet_step ((exact E1.out _)))
  refine wpQuiet_nil ?_
  rintro _ ⟨⟨w4,hb⟩,rfl⟩
  clear cH cS
  have cH:=fun i=>(BH.out.fut hb).cell i
  have FR4:=zH (FR.out.fut hb)
  clear hb
  go_wp2_with fail
  go_ret
  exact ⟨ret_int (by rw [← HR.out,CC.out,E.out]),FR4.out.out⟩
theorem same36_eq (p:Pt) (A B A' B':Option Addr) (n c m d n' c' m' d':Nat) (w:World) (h1:Sl (tInt .i8) w (blo w.heap.size) A n c p.input.data) (h2:Sl (tInt .i8) w (blo w.heap.size) B m d p.value.data)
  (h3:Sl (tInt .i8) w (blo w.heap.size) A' n' c' p.input.data) (h4:Sl (tInt .i8) w (blo w.heap.size) B' m' d' p.value.data) :
  Calls Tryz.prog 15 #[.agg (ptCells p A n c B m d),.agg (ptCells p A' n' c' B' m' d')] w fun e w'=>e=.returned (.bool true)∧Below w.heap.size w w':=by
 have H1:=zH h1
 have H2:=zH h2
 have H3:=zH h3
 have H4:=zH h4
 clear h1 h2 h3 h4
 obtain ⟨W2,hW2⟩:∃ W2,(w.alloc (.cells (ptCells p A n c B m d) 53)).alloc (.cells (ptCells p A' n' c' B' m' d') 53)=W2:=⟨_,rfl⟩
 have G2:=zH (show Below w.heap.size w W2 by rw [← hW2];exact ((Below.refl _ _).alloc (Nat.le_refl _) _).alloc (by simp) _)
 have BA:=zH (show Blk W2 w.heap.size 53 (ptCells p A n c B m d) by rw [← hW2];exact (Blk.now _ _ _ _ rfl).past _)
 have BB:=zH (show Blk W2 (w.heap.size+1) 53 (ptCells p A' n' c' B' m' d') by rw [← hW2];exact Blk.now _ _ _ _ (by simp))
 unfold ptCells at *
 have HW:=zH hW2
 clear hW2
 go_enter Tryz.func15,Tryz.ntmps15
 go_wp2_with fail
 rw [HW.out]
 clear HW
 refine (same05_eq p.input A A' n c n' c' W2 (H1.out.later G2.out (Nat.le_refl _)) (H3.out.later G2.out (Nat.le_refl _))).mono ?_
 rintro e w3 ⟨rfl,b3⟩
 have G3:=zH (below_call G2.out b3 G2.out.size)
 have bA:=BA.out.later b3
 have bB:=BB.out.later b3
 have cA:=fun i=>bA.cell i
 have cB:=fun i=>bB.cell i
 clear bA bB b3
 go_wp2_with fail
 refine (same05_eq p.value B B' m d m' d' w3 (H2.out.later G3.out (Nat.le_refl _)) (H4.out.later G3.out (Nat.le_refl _))).mono ?_
 rintro e w4 ⟨rfl,b4⟩
 have g4:=below_call G3.out b4 G3.out.size
 clear cA cB b4
 go_wp2_with fail
 go_ret
 exact ⟨rfl,g4⟩
end Go.Proofs.YthjmghjfklkmbaaGreat
