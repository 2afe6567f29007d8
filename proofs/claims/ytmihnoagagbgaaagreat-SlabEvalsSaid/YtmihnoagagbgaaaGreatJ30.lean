/-
  The table of a function of numbers (layer 21): act.Table.
-/
import Derived.Test.YtmihnoagagbgaaaGreatJ19
set_option linter.unusedVariables false
set_option linter.unusedSimpArgs false
set_option maxRecDepth 100000
set_option maxHeartbeats 16000000
namespace Go.Proofs.YtmihnoagagbgaaaGreat
open Go.RowKit Go.ChangeShapes Go.WideShapes Fx Tryz
set_option maxRecDepth 100000
set_option maxHeartbeats 16000000
theorem iR {P:Program} {fn:Func} {R:Ending → World → Prop} {a:Act} {w:World} {g:Nat} {e ty el:TypeId} {n:Nat} {cs:Array Value} {p u:Tmp} (h:fn.results=#[.cell p ty,.tmp u]) (hb:Blk w g e cs) (hp:a.tmps.getD p undef=.pointer (some ⟨g,0,none⟩)) (hu:P.underlying ty=some (.array n el)) (hi:(P.info? ty).map (·.size)=some cs.size) (hd:a.defers=[])
  (hR:R (.returned (.tuple #[.agg cs,a.tmps.getD u undef])) w):bodyPost P fn R .ret a w:=by
 refine bodyPost_ret (v:=.tuple #[.agg cs,a.tmps.getD u undef]) ?_ hd hR
 rw [results_cell_tmp h,hp,cK,Result.andThen_ok,run_loadVar_row w g e ty cs (0,0) (.array n el) hb.heap hu rfl hi,Result.andThen_ok]
def bj (f:Nat → Int) (k:Nat):Array Value:=(Array.range 256).map fun i=>.int .i8 (if i < k then f i else 0)
theorem bf (f:Nat → Int) (k:Nat):(bj f k).size=256:=by simp [bj]
theorem fM (f:Nat → Int) (k i:Nat) (h:i < 256):(bj f k)[i]?=some (.int .i8 (if i < k then f i else 0)):=by
 unfold bj
 rw [Array.getElem?_map,Array.getElem?_range,if_pos h];rfl
theorem gj (f:Nat → Int):Tryz.zeroCells129=bj f 0:=by
 have e:bj f 0=bj (fun _=>0) 0:=by
  unfold bj
  congr 1
 rw [e]
 show Tryz.zeroCells129=bj (fun _=>0) 0
 kernel_rfl
theorem sV (f:Nat → Int) (k:Nat) (h:k < 256):(bj f (k+1)).toList=(bj f k).toList.take k ++ [.int .i8 (f k)] ++ (bj f k).toList.drop (k+1):=by
 apply List.ext_getElem?
 intro i
 rw [List.append_assoc]
 by_cases h1:i < k
 ·rw [List.getElem?_append_left (by simp [bf];omega),List.getElem?_take,if_pos h1,Array.getElem?_toList,Array.getElem?_toList,fM _ _ _ oM,fM _ _ _ oM,if_pos oM,if_pos h1]
 ·rw [List.getElem?_append_right (by simp [bf];omega)]
  simp only [List.length_take,Array.length_toList,bf]
  rw [Nat.min_eq_left oM]
  by_cases h2:i=k
  ·subst h2
   rw [Nat.sub_self,Array.getElem?_toList,fM _ _ _ h,if_pos oM]
   rfl
  ·obtain ⟨j,hj⟩:∃ j,i - k=j+1:=⟨i - k - 1,by omega⟩
   rw [hj]
   show _=([] ++ (bj f k).toList.drop (k+1))[j]?
   rw [List.nil_append,List.getElem?_drop,Array.getElem?_toList,Array.getElem?_toList,show k+1+j=i by omega]
   by_cases h3:i < 256
   ·rw [fM _ _ _ h3,fM _ _ _ h3,if_neg oM,if_neg oM]
   ·rw [Array.getElem?_eq_none (by rw [bf];omega),Array.getElem?_eq_none (by rw [bf];omega)]
theorem gU (f:Nat → Int) (k:Nat):(bj f k).all (·.oneCell')=true:=by
 unfold bj
 rw [Array.all_eq_true]
 intro i hi
 simp [Value.oneCell']
def bL (d:af) (i:Nat):Int:=dP d ((i:Int) - 128)
theorem lE (d:af) (W:QA) (nw cw:Nat) (B:QA) (nb cb:Nat) (w:World) (hd:aE d) :
  Calls prog 88 #[.agg (nD d W nw cw B nb cb)] w fun e w'=>(∃ k:Nat,e=.returned (.tuple #[.agg (bj (bL d) k),.int .i64 (if aq d.qm d.qs=true then 0 else 7)])∧(aq d.qm d.qs=true → k=256))∧Below w w w':=by
 have QR:=zH (fun w=>cR d.qm d.qs d.qz w)
 have HD:=zH hd
 have FR:=zW w
 obtain ⟨w1,yw1,BN,FR⟩:=nF FR (nD d W nw cw B nb cb) 42
 obtain ⟨w2,yw2⟩:∃ x,w1.alloc (.cells Tryz.zeroCells129 129)=x:=⟨_,rfl⟩
 have k2:Below w1 w1 w2:=by rw [← yw2];exact (qB _ _).alloc (lR _) _
 have BR:=zH (show Blk w2 w1.heap.size 129 (bj (bL d) 0) by rw [← yw2,gj (bL d)];exact Blk.now _ _ _ _ rfl)
 obtain ⟨FR,BN⟩:=uz2 k2 FR BN
 obtain ⟨w3,yw3⟩:∃ x,w2.alloc (.cells Tryz.zeroCells129 129)=x:=⟨_,rfl⟩
 have k3:Below w2 w2 w3:=by rw [← yw3];exact (qB _ _).alloc (lR _) _
 have BT:=zH (show Blk w3 w2.heap.size 129 (bj (bL d) 0) by rw [← yw3,gj (bL d)];exact Blk.now _ _ _ _ rfl)
 obtain ⟨FR,BN,BR⟩:=uz3 k3 FR BN BR
 have l1:=zL yw1
 have l2:=zL yw2
 obtain ⟨q,hq⟩:∃ q,aq d.qm d.qs=q:=⟨_,rfl⟩
 rw [hq] at QR ⊢
 clear hd hq k2 k3
 cases q with
 | false =>
  go_in
  go_wp2_with (first|(refine lQJ 40 #[.int .i32 d.qm,.int .i64 d.qs,.int .i8 d.qz] BN.o ?_)|(go_at_call 81;refine qM (QR.o _) fun wb hb=>?_;obtain ⟨FR,BT,BR⟩:=uz3 hb FR BT BR;clear hb)|(refine wpList_load_blk rfl 129 (.tmp 4) rfl w2.heap.size 0 rfl _ (bj (bL d) 0) (bj (bL d) 0) _ BT.o underlying129 rfl (by rw [bf];kernel_rfl) (by rw [List.drop_zero,List.take_of_length_le sM]) ?_)|(refine wpList_store_all rfl 129 (.tmp 2) (.tmp 10) rfl w1.heap.size (bj (bL d) 0) rfl rfl _ (bj (bL d) 0) BR.o (by simp [bf]) (by rw [bf];kernel_rfl) (gU _ _) ?_;intro w9 B9 g9))
  refine iR rfl B9 rfl underlying129 (by rw [bf];kernel_rfl) rfl ?_
  exact ⟨⟨0,rfl⟩,(FR.o.away g9 oM).out⟩
 | true =>
  go_in
  go_wp2_with (first|(refine lQJ 40 #[.int .i32 d.qm,.int .i64 d.qs,.int .i8 d.qz] BN.o ?_)|(go_at_call 81;refine qM (QR.o _) fun wb hb=>?_;obtain ⟨FR,BN,BT,BR⟩:=uz4 hb FR BN BT BR;clear hb))
  clear yw1 yw2 yw3
  go_loopw [11] (fun ii wr=>∃ k:Nat,k≤256∧ii=.int .i64 k∧Far w wr∧Blk wr w.heap.size 42 (nD d W nw cw B nb cb)∧Blk wr w1.heap.size 129 (bj (bL d) 0)∧Blk wr w2.heap.size 129 (bj (bL d) k)) (fun ii _=>256 - (intOf ii).toNat)
  case atStart=>exact ⟨0,zl _,rfl,FR.o,BN.o,BR.o,BT.o⟩
  case round =>
   obtain ⟨k,hk,rfl,hf,hbn,hbr,hbt⟩:=hrel
   clear FR BN BR BT
   have FR:=zH hf
   have BN:=zH hbn
   have BR:=zH hbr
   have BT:=zH hbt
   clear hf hbn hbr hbt
   by_cases hlt:k < 256
   ·have p1:(k:Int) < 256:=oM
    have ew:IntKind.i8.wrap ((k:Int) - 128)=(k:Int) - 128:=by have:=qk ((k:Int) - 128);unfold w8 at this;rw [this];omega
    have OV:=zH (fun w=>oX ((k:Int) - 128) d W nw cw B nb cb w (by rw [aT];omega) HD.o)
    have SF:=zH (show dP d ((k:Int) - 128)=bL d k from rfl)
    rw [SF.o] at OV
    have TS:=zH (sV (bL d) k hlt)
    obtain ⟨v,hv⟩:∃ v,bL d k=v:=⟨_,rfl⟩
    rw [hv] at OV TS
    clear hv
    go_wp2_with (first|(refine lGJ19 BN.o ?_)|(go_at_call 125;refine qM (OV.o _) fun wb hb=>?_;obtain ⟨FR,BN,BT,BR⟩:=uz4 hb FR BN BT BR;clear hb)|(refine wpList_store_one rfl 37 (.tmp 20) (.tmp 19) rfl w2.heap.size k (.int .i8 v) rfl rfl rfl rfl _ (bj (bL d) k) (bj (bL d) (k+1)) BT.o (by rw [bf];exact hlt) kM TS.o ?_;intro w9 B9 g9))
    exact ⟨⟨k+1,by omega,by go_num,FR.o.away g9 oM,BN.o.away g9 (.inl oM),BR.o.away g9 (.inl oM),B9⟩,by simp [intOf];omega⟩
   ·obtain rfl:k=256:=oM
    go_wp2_with (first|(refine wpList_load_blk rfl 129 (.tmp 4) rfl w2.heap.size 0 rfl _ (bj (bL d) 256) (bj (bL d) 256) _ BT.o underlying129 rfl (by rw [bf];kernel_rfl) (by rw [List.drop_zero,List.take_of_length_le sM]) ?_)|(refine wpList_store_all rfl 129 (.tmp 2) (.tmp 22) rfl w1.heap.size (bj (bL d) 256) rfl rfl _ (bj (bL d) 0) BR.o (by simp [bf]) (by rw [bf];kernel_rfl) (gU _ _) ?_;intro w9 B9 g9))
    refine iR rfl B9 rfl underlying129 (by rw [bf];kernel_rfl) rfl ?_
    exact ⟨rfl,(FR.o.away g9 oM).out⟩
end Go.Proofs.YtmihnoagagbgaaaGreat
