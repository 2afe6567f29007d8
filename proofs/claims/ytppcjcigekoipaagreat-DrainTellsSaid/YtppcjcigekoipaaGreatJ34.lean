/-
  A bundle of its own (layer 35): bundle.Copy.
-/
import Derived.Test.YtppcjcigekoipaaGreatJ33
set_option linter.unusedVariables false
set_option linter.unusedSimpArgs false
namespace Go.Proofs.YtppcjcigekoipaaGreat
open Go.RowKit Go.ChangeShapes Go.WideShapes
set_option maxRecDepth 100000
set_option maxHeartbeats 4000000
def RetBun (u:Bun) (n:Nat) (w:World) (e:Ending) (w':World):Prop :=
 ∃ A cap,e=.returned (.agg #[.int .i64 u.h,.int .i64 u.v,.int .i64 u.c,.int .i64 u.cl,.slice A n cap])∧Sl tModel w' (bin w.heap.size w'.heap.size) A n cap u.models∧Below w.heap.size w w'
theorem set_same {α:Type} {l:List α} {k:Nat} {d:α} (h:l[k]?=some d):l.set k d=l:=by
 obtain ⟨h1,h2⟩:=List.getElem?_eq_some_iff.1 h
 rw [← h2,List.set_getElem_self]
theorem modelSize:tModel.size=1:=rfl
theorem blkSize:tBlk.size=5:=rfl
theorem bundleCopy_any (u:Bun) (A:Option Addr) (n cap:Nat) (w:World) (hu:Sl tModel w (blo w.heap.size) A n cap u.models) (hf:fewU u) (hn:1≤n) (h1:∀ m ∈ u.models,1≤m.length∧∀ b ∈ m,1≤b.nodes.length) :
  Calls Tryz.prog 19 #[.agg #[.int .i64 u.h,.int .i64 u.v,.int .i64 u.c,.int .i64 u.cl,.slice A n cap]] w (RetBun u n w):=by
 have n4:n≤4:=by have:=hf.1;rw [hu.n_eq] at this;exact this
 have FU:=zH (fun m hm=>And.intro (hf.2 m hm) (h1 m hm))
 have HU:=zH (Old.now hu)
 obtain ⟨ms,hms⟩:∃ x,u.models=x:=⟨_,rfl⟩
 obtain ⟨h0,hh⟩:∃ x,u.h=x:=⟨_,rfl⟩
 obtain ⟨v0,hv⟩:∃ x,u.v=x:=⟨_,rfl⟩
 obtain ⟨c0,hc⟩:∃ x,u.c=x:=⟨_,rfl⟩
 obtain ⟨l0,hl⟩:∃ x,u.cl=x:=⟨_,rfl⟩
 have HE:=zH (And.intro hms (And.intro hh (And.intro hv (And.intro hc hl))))
 rw [hms] at FU HU
 rw [hh,hv,hc,hl]
 clear hms hh hv hc hl hf h1 hu
 have H:=zH (Far.refl w)
 obtain ⟨w1,hw_w1,B1,k1⟩:=nB w #[.int .i64 h0,.int .i64 v0,.int .i64 c0,.int .i64 l0,.slice A n cap] 26
 replace H:=zN k1 H B1
 clear B1 k1
 obtain ⟨w2,hw_w2,B2,k2⟩:=nB w1 #[.int .i64 0,.int .i64 0,.int .i64 0,.int .i64 0,.slice none 0 0] 26
 replace H:=zN k2 H B2
 clear B2 k2
 have l1:w.heap.size < w1.heap.size:=by rw [← hw_w1];simp
 have l2:w1.heap.size < w2.heap.size:=by rw [← hw_w2];simp
 have CM:=zH (fun q=>cloneModel_any A n cap ms w2 (blo w2.heap.size) (fun _ h=>h) q (by omega))
 have cA:=fun i=>H.out.1.2.cell i
 go_enter Tryz.func19,Tryz.ntmps19
 go_wp2_with fail
 refine (CM.out (HU.out.fut H.out.1.1.out).all).mono ?_
 rintro e w3 ⟨v,rfl,ho,hb⟩
 have hoB:=ho.toB (Nat.le_of_ble_eq_true rfl)
 have g23:=zH hb
 clear ho cA CM
 rcases hoB with ⟨-,q,-⟩|⟨g,gc,cur0,rfl,hg,OB⟩
 ·omega
 have H2:=H
 clear H hb hw_w1 hw_w2
 go_wp2_with fail
 go_loopw [13] (fun i wr=>∃ (k:Nat) (S:Nat → Nat → Prop) (cur:Array Value),k≤n∧i=.int .i64 k∧OwnB tModel wr S g 41 n gc ms cur∧(∀ j x,j < n → S j x → x < wr.heap.size∧x ≠ g∧(j < k → w2.heap.size≤x))∧Below w2.heap.size w2 wr) (fun i _=>n - (intOf i).toNat)
 case atStart=>exact ⟨0,_,cur0,Nat.zero_le _,rfl,OB,fun j x hj hx=>⟨Nat.lt_of_lt_of_le (show x < w2.heap.size from hx) g23.out.size,fun e=>absurd (show x < w2.heap.size from hx) (by omega),fun h=>by omega⟩,g23.out⟩
 case round =>
  clear OB
  obtain ⟨k,S,cur,hk,rfl,hO,hS,hb2⟩:=hrel
  obtain ⟨wo,hwo⟩:∃ x,x=wr:=⟨_,rfl⟩
  subst hwo
  have OB:=zH hO
  have SS:=zH hS
  have H:=zF hb2 H2
  have zr:=hb2.size
  have G2:=zH hb2
  have hgr:=hO.blk.lt
  clear hO hS hb2
  by_cases hlt:k < n
  ·have p1:(k:Int) < (n:Int):=by omega
   have gi:IntKind.i64.wrap ((k:Int)+1)=((k+1:Nat):Int):=(IntWalk.i64_in _ (by omega)).trans (by simp)
   have hkl:k < ms.length:=by rw [OB.out.len];exact hlt
   have hd:ms[k]?=some ms[k]:=List.getElem?_eq_getElem hkl
   obtain ⟨m,hm⟩:∃ m,ms[k]=m:=⟨_,rfl⟩
   rw [hm] at hd
   obtain ⟨A',c',hc,hA⟩:=tSlice_iff.1 (OB.out.at_ k m hd)
   have HC:=zH hc
   rw [modelSize,Nat.mul_one] at HC
   obtain ⟨⟨m8,fm⟩,m1,fm1⟩:=FU.out m (List.mem_of_getElem? hd)
   have FM:=zH (fun b hb=>And.intro (fm b hb) (fm1 b hb))
   obtain ⟨n',hn'⟩:∃ x,m.length=x:=⟨_,rfl⟩
   rw [hn'] at hA HC m8 m1
   have HD:=zH hd
   have HA:=zH hA
   have RG:=zH (show wo.rangeAt g k [.slice A' n' c'] from fun j v hv=>by
    rw [OB.out.blk.cell,← Array.getElem?_toList]
    rw [← HC.out] at hv
    exact drop_get hv)
   clear hd hm hc hA hkl fm fm1
   go_wp2_with (first|(refine lM 41 (.tmp 16) RG.out Tryz.underlying41 ?_)|(refine sF 41 (.tmp 5) (.tmp 17) #[.slice A' n' c'] ?_;intro w5 b5 k5;have HX:=zN k5 (zH (Far.refl wo)) b5;have cB:=fun i=>HX.out.2.cell i;clear b5 k5))
   have z5:=HX.out.1.size
   refine (cloneBlock_any A' n' c' m w5 (S k) (fun x hx=>Nat.lt_of_lt_of_le (SS.out k x hlt hx).1 z5) (HA.out.below HX.out.1.out fun x hx=>(SS.out k x hlt hx).1) (by omega)).mono ?_
   rintro e w6 ⟨v,rfl,ho,hb⟩
   have hoB:=ho.toB (Nat.le_of_ble_eq_true rfl)
   have z6:=hb.size
   replace HX:=zF hb HX
   clear ho cB RG hb
   rcases hoB with ⟨-,q,-⟩|⟨gb,bc,cui0,rfl,hgb,OI⟩
   ·omega
   have OC:=zH (And.intro OB.out.size OB.out.le)
   rw [modelSize,Nat.mul_one] at OC
   have f0:k < cur.size:=by rw [OC.out.1];have:=OC.out.2;omega
   obtain ⟨cur1,hc1⟩:∃ c:Array Value,c.toList=cur.toList.take k ++ [.slice (some ⟨gb,0,none⟩) n' bc] ++ cur.toList.drop (k+1):=⟨_,List.toList_toArray⟩
   have f1:k < cur1.size:=by rw [← Array.length_toList,hc1,List.length_append,List.length_append,List.length_take,List.length_drop,Array.length_toList];simp;omega
   have e1:cur1[k]?=some (.slice (some ⟨gb,0,none⟩) n' bc):=by
    rw [← Array.getElem?_toList,hc1,List.getElem?_append_left (by rw [List.length_append,List.length_take,Array.length_toList];simp;omega),List.getElem?_append_right (by rw [List.length_take,Array.length_toList];omega),List.length_take,Array.length_toList,Nat.min_eq_left (by omega),Nat.sub_self]
    rfl
   have C1:=zH hc1
   have E1:=zH e1
   clear hc1 f1 e1
   have OB6:=zH (OB.out.fut HX.out.1.out fun j x hj hs=>(SS.out j x hj hs).1).blk
   have F6:=zH (below_grown (r:=some g) HX.out.1.out)
   go_wp2_with (first|(refine wpList_store_one rfl _ (.tmp 24) (.tmp 22) rfl g k (.slice (some ⟨gb,0,none⟩) n' bc) rfl rfl rfl rfl _ cur cur1 OB6.out f0 (by kernel_rfl) C1.out ?_;intro w7 b7 g7;have HM:=zA g7 (zH HX.out.2);have cB:=fun i=>HM.out.cell i))
   go_loopw [28] (fun i wr=>∃ (q:Nat) (T:Nat → Nat → Prop) (cui:Array Value),q≤n'∧i=.int .i64 q∧OwnB tBlk wr T gb 49 n' bc m cui∧(∀ j x,j < n' → T j x → x < wr.heap.size∧x ≠ g∧x ≠ gb∧(j < q → w2.heap.size≤x))∧Blk wr g 41 cur1∧wo.grownBy wr (some g)) (fun i _=>n' - (intOf i).toNat)
   case atStart=>exact ⟨0,_,cui0,Nat.zero_le _,rfl,OI.away g7 (by omega) (fun j x hj hx=>⟨Nat.lt_of_lt_of_le (SS.out k x hlt hx).1 (by omega),(SS.out k x hlt hx).2.1⟩),fun j x hj hx=>by have hs:=SS.out k x hlt hx;have z7:=g7.size;exact ⟨by omega,hs.2.1,by omega,fun h=>by omega⟩,b7,F6.out.trans g7⟩
   case round =>
    clear OI OB6 F6 HX b7 g7 HM cB
    obtain ⟨q,T,cui,hq,rfl,hO,hT,b8,g8⟩:=hrel
    obtain ⟨wi,hwi⟩:∃ x,x=wr:=⟨_,rfl⟩
    subst hwi
    have OI:=zH hO
    have TT:=zH hT
    have G8:=zH (And.intro b8 g8)
    have z8:=g8.size
    replace H:=zA g8 H
    have hgi:=hO.blk.lt
    clear hO hT b8 g8
    by_cases hlq:q < n'
    ·have p2:(q:Int) < (n':Int):=by omega
     have gq:IntKind.i64.wrap ((q:Int)+1)=((q+1:Nat):Int):=(IntWalk.i64_in _ (by omega)).trans (by simp)
     have KS:=zH (fun x (hx:S k x)=>Nat.lt_of_lt_of_le (SS.out k x hlt hx).1 z8)
     have HB:=zH (HA.out.keep fun x hx=>G8.out.2.block x (SS.out k x hlt hx).1 (fun e=>(SS.out k x hlt hx).2.1 (Option.some.inj e)))
     obtain ⟨b,ga,oa,L,nl,cl,W,nw,cw,B,nb,cb,hb,rfl,hga,rg,hat⟩:=HB.out.blk_at q hlq
     have HD2:=zH hb
     have RG:=zH rg
     have AT:=zH hat
     have FB:=FM.out b (List.mem_of_getElem? hb)
     have CB:=zH (fun w q=>copiedBlock_any b L nl cl W nw cw B nb cb w q FB.1 (by rw [← hat.nodes.n_eq];exact FB.2))
     clear hb rg hat HB
     go_upto_region 9 with (first|(refine lM 49 (.tmp 31) RG.out Tryz.underlying49 ?_)|(refine sF 49 (.tmp 7) (.tmp 32) #[.slice L nl cl,.bool b.exit,.slice W nw cw,.slice B nb cb,.int .i32 b.head.need] ?_;intro w9 b9 k9;have HX:=zN k9 (zH (Far.refl wi)) b9;clear b9 k9))
     replace HX:=zD w9 HX
     have y9:=HX.out.1.size
     refine wp_region_T (fun w'=>w'.cell? ⟨g,k,none⟩=some (.slice (some ⟨gb,0,none⟩) n' bc)∧Blk w' wi.heap.size 49 #[.slice L nl cl,.bool b.exit,.slice W nw cw,.slice B nb cb,.int .i32 b.head.need]∧Below w9.heap.size w9 w') 8 (by kernel_rfl) ?_ (fun hS=>?_)
     ·exact ⟨((G8.out.1.fut HX.out.1.out).cell k).trans E1.out,HX.out.2,(Below.refl _ _).drew⟩
     refine kT 0 rfl hS ?_
     try simp only [pX]
     refine kT 1 rfl hS ?_
     try simp only [pX]
     refine kT 2 rfl hS ?_
     try simp only [pX]
     refine kT 3 rfl hS ?_
     try simp only [pX]
     refine kT 4 rfl hS ?_
     try simp only [pX]
     refine kT 5 rfl hS ?_
     try simp only [pX]
     refine tkT 6 rfl (yB 49 (.tmp 7) wi.heap.size (fun w hs=>hs.2.1) Tryz.underlying49) hS ?_
     try simp only [pX]
     refine wpAnyT_one (i:=7) (by kernel_rfl) rfl rfl (fun K hK=>?_)
     go_simp
     refine (CB.out _ (AT.out.keep (fun x hx=>HX.out.1.out.block x (KS.out x hx)) (fun x hx=>Nat.lt_of_lt_of_le (KS.out x hx) HX.out.1.size))).mono ?_;rintro e w10 ⟨L2,c2,W2,d2,B2,f2,rfl,hat,hb⟩;have AT2:=zH hat;have z10:=hb.size;replace HX:=zF hb HX;clear hat
     refine hK.out _ _ ?_ (fun hS=>?_)
     ·exact ⟨(by first|exact cell_later hb hS.1|exact Blk.later hS.1 hb),(by first|exact cell_later hb hS.2.1|exact Blk.later hS.2.1 hb),(by first|exact below_later hb hS.2.2|exact grown_below hS.2.2 hb)⟩
     clear hK K
     try simp only [pX]
     refine wpAnyT_tail _ _ rfl rfl (by kernel_rfl) ?_
     have F10:=zH HX.out.1.out
     have z9:=F10.out.size
     clear hS hb HX CB AT
     have OJ:=zH (OI.out.fut F10.out fun j x hj hs=>(TT.out j x hj hs).1)
     have OD:=zH (And.intro OJ.out.size OJ.out.le)
     rw [blkSize] at OD
     have z2:(q+1)*5≤bc*5:=Nat.mul_le_mul_right _ (by have:=OD.out.2;omega)
     have F0:=zH (show q*5+5≤cui.size by rw [OD.out.1];omega)
     obtain ⟨cui1,hc2⟩:∃ c:Array Value,c.toList=cui.toList.take (q*5) ++ [.slice L2 nl c2,.bool b.exit,.slice W2 nw d2,.slice B2 nb f2,.int .i32 b.head.need] ++ cui.toList.drop (q*5+5):=⟨_,List.toList_toArray⟩
     have C2:=zH hc2
     clear hc2
     go_wp2_with (refine wpList_store_blk rfl _ (.tmp 41) (.tmp 40) rfl gb (q*5) #[.slice L2 nl c2,.bool b.exit,.slice W2 nw d2,.slice B2 nb f2,.int .i32 b.head.need] rfl rfl _ cui cui1 OJ.out.blk F0.out (by kernel_rfl) (by rw [← Array.all_toList];rfl) C2.out ?_;intro w11 b11 g11)
     have z11:=g11.size
     have hO2:OwnB tBlk w11 (fun j x=>(j ≠ q∧T j x) ∨ (j=q∧wi.heap.size≤x∧x < w11.heap.size)) gb 49 n' bc (m.set q b) cui1:=by
      refine OJ.out.put (o:=0) (ps:=[.slice L2 nl c2,.bool b.exit,.slice W2 nw d2,.slice B2 nb f2,.int .i32 b.head.need]) hlq g11 b11 (by rw [C2.out,blkSize];rfl) (Nat.le_of_ble_eq_true rfl) (fun j x hj hjq hs=>⟨.inl ⟨hjq,hs⟩,Nat.lt_of_lt_of_le (TT.out j x hj hs).1 z9,(TT.out j x hj hs).2.2.1⟩) ?_
      rw [blkSize,List.take_zero,List.nil_append,List.drop_of_length_le (by rw [List.length_take];exact Nat.min_le_left _ _),List.append_nil]
      exact blk_rep (AT2.out.keep (fun x hx=>g11.block x hx.2 fun e=>by have:=Option.some.inj e;have:=hx.1;omega) fun x hx=>.inr ⟨rfl,Nat.le_trans y9 hx.1,Nat.lt_of_lt_of_le hx.2 z11⟩)
     rw [set_same HD2.out] at hO2
     refine ⟨⟨q+1,_,cui1,by omega,by go_num,hO2,?_,(G8.out.1.fut F10.out).away g11 (by omega),grown_new (G8.out.2.trans (below_grown F10.out)) g11 (by omega)⟩,by simp [intOf];omega⟩
     rintro j x hj (⟨hjk,hs⟩|⟨rfl,h1,h2⟩)
     ·have:=TT.out j x hj hs
      exact ⟨by omega,this.2.1,this.2.2.1,fun h=>this.2.2.2 (by omega)⟩
     ·exact ⟨h2,by omega,by omega,fun _=>by omega⟩
    ·obtain rfl:n'=q:=by omega
     have p2:¬ (n':Int) < (n':Int):=by omega
     go_wp2_with fail
     have hO2:OwnB tModel wi (fun j x=>(j ≠ k∧S j x) ∨ (j=k∧w2.heap.size≤x∧x < wi.heap.size∧x ≠ g)) g 41 n gc (ms.set k m) cur1:=by
      refine OB.out.put (o:=0) (ps:=[.slice (some ⟨gb,0,none⟩) n' bc]) hlt G8.out.2 G8.out.1 (by rw [C1.out,modelSize,Nat.mul_one];rfl) (Nat.le_of_ble_eq_true rfl) (fun j x hj hjk hs=>⟨.inl ⟨hjk,hs⟩,(SS.out j x hj hs).1,(SS.out j x hj hs).2.1⟩) ?_
      rw [modelSize,List.take_zero,List.nil_append,List.drop_of_length_le (by rw [List.length_take];exact Nat.min_le_left _ _),List.append_nil]
      rw [← hn']
      exact tSlice_iff.2 ⟨_,_,rfl,by rw [hn'];exact OI.out.sl (.inr ⟨rfl,by omega,hgi,by omega⟩) fun j x hj hs=>.inr ⟨rfl,(TT.out j x hj hs).2.2.2 hj,(TT.out j x hj hs).1,(TT.out j x hj hs).2.1⟩⟩
     rw [set_same HD.out] at hO2
     refine ⟨⟨k+1,_,cur1,by omega,by go_num,hO2,?_,G2.out.grown G8.out.2 (by omega) (fun x hx=>by have:=Option.some.inj hx;omega)⟩,by simp [intOf];omega⟩
     rintro j x hj (⟨hjk,hs⟩|⟨rfl,h1,h2,h3⟩)
     ·have:=SS.out j x hj hs
      exact ⟨by omega,this.2.1,fun h=>this.2.2 (by omega)⟩
     ·exact ⟨h2,h3,fun _=>h1⟩
  ·obtain rfl:n=k:=by omega
   have p1:¬ (n:Int) < (n:Int):=by omega
   go_wp2_with (first
    | (refine wpList_store_one rfl _ (.tmp 45) (.tmp 44) rfl w.heap.size 4 (.slice (some ⟨g,0,none⟩) n gc) rfl rfl rfl rfl _ _ #[.int .i64 h0,.int .i64 v0,.int .i64 c0,.int .i64 l0,.slice (some ⟨g,0,none⟩) n gc] H.out.1.2 (by simp) (by kernel_rfl) rfl ?_;intro w5 b5 g5;have O5:=zH (OB.out.away g5 (by omega) fun j x hj hs=>⟨(SS.out j x hj hs).1,by have:=(SS.out j x hj hs).2.2 hj;omega⟩);replace H:=zH (And.intro (And.intro (H.out.1.1.away g5 (Nat.le_refl _)) b5) (H.out.2.away g5 (by omega)));have z5:=g5.size;clear b5 g5)
    | (refine lB 26 (.tmp 1) w.heap.size H.out.1.2 Tryz.underlying26 ?_)
    | (refine sB 26 (.tmp 2) (.tmp 46) w1.heap.size #[.int .i64 h0,.int .i64 v0,.int .i64 c0,.int .i64 l0,.slice (some ⟨g,0,none⟩) n gc] H.out.2 ?_;intro w7 b7 g7;have F7:=zA g7 (zH H.out.1.1);have O7:=zH (O5.out.away g7 (by omega) fun j x hj hs=>⟨Nat.lt_of_lt_of_le (SS.out j x hj hs).1 z5,by have:=(SS.out j x hj hs).2.2 hj;omega⟩);have z7:=g7.size;clear g7))
   refine ret_cell rfl b7 rfl Tryz.underlying26 (by kernel_rfl) rfl ?_
   refine ⟨some ⟨g,0,none⟩,gc,by rw [HE.out.2.1,HE.out.2.2.1,HE.out.2.2.2.1,HE.out.2.2.2.2],?_,F7.out.out⟩
   rw [HE.out.1]
   refine O7.out.sl ⟨by omega,by omega⟩ fun j x hj hs=>⟨?_,?_⟩
   ·have:=(SS.out j x hj hs).2.2 hj;omega
   ·have:=(SS.out j x hj hs).1;omega
end Go.Proofs.YtppcjcigekoipaaGreat
