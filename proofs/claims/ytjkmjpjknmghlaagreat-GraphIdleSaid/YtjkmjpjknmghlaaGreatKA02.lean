/-
  All values of a block's nodes (layer 27: graph.Values), and the last one (graph.Eval).
-/
import Derived.Test.YtjkmjpjknmghlaaGreatKA01
set_option linter.unusedVariables false
set_option linter.unusedSimpArgs false
namespace Go.Proofs.YtjkmjpjknmghlaaGreat
open Go.RowKit Go.ChangeShapes Go.WideShapes
set_option maxRecDepth 100000
set_option maxHeartbeats 16000000
def RetVals (x:List Tensor × Int × Int) (w:World) (e:Ending) (w':World):Prop :=
 ∃ A m cap,e=.returned (.tuple #[.slice A m cap,.int .i64 x.2.1,.int .i64 x.2.2])∧Sl tTensor w' (bin w.heap.size w'.heap.size) A m cap x.1∧Below w.heap.size w w'
theorem RetVals.none {i e:Int} {w w':World} (hb:Below w.heap.size w w'):RetVals ([],i,e) w (.returned (.tuple #[.slice none 0 0,.int .i64 i,.int .i64 e])) w' :=
 ⟨Option.none,0,0,rfl,Sl.nil _ _ _,hb⟩
theorem Own.wide {α:Type} {t:Ty α} {w:World} {S S':Nat → Prop} {base:Nat} {E:TypeId} {v:Value} {n:Nat} {l:List α} (h:Own t w S base E v n l) (hk:∀ b,S b → S' b):Own t w S' base E v n l :=
 let ⟨vs,h1,h2⟩:=h.out;⟨vs,h1,h2.more hk⟩
theorem values_any (A:Option Addr) (n cap:Nat) (l:List Node) (x:Tensor) (D:Option Addr) (m cm:Nat) (w:World) (hs:Sl tNode w (blo w.heap.size) A n cap l) (hx:TensorIn x) (hd:Sl (tInt .i8) w (blo w.heap.size) D m cm x.data) (h300:m≤300) (hf:∀ d ∈ l,d.w.length≤1000∧d.bias.length≤100) :
  Calls Tryz.prog 7 #[.slice A n cap,.agg #[.int .i64 x.h,.int .i64 x.v,.int .i64 x.c,.slice D m cm]] w (RetVals (valuesV l x) w):=by
 have hn:=hs.n_eq
 obtain ⟨r,hr⟩:∃ r,valuesV l x=r:=⟨_,rfl⟩
 rw [hr]
 unfold valuesV at hr
 rw [hn] at hr
 have VV:=zH hr.symm
 have RA:=zH (fun w=>tensorRight_any x.h x.v x.c D m cm w hx.h hx.v hx.c (Nat.le_trans hd.cap_le hd.max_le))
 have c1':decide (0 < elems x.h x.v x.c∧elems x.h x.v x.c=m)=x.ok:=by unfold Tensor.ok;rw [hd.n_eq]
 rw [c1'] at RA
 have SP:=zH (fun w hs=>shapes_any A n cap l x.h x.v x.c w hs hx.h hx.v hx.c hf)
 have TH:=zH (shapes_there (l:=l) (s:=(x.h,x.v,x.c)))
 have TO:=zH (fun w hok ha=>tensorOf_any x D m cm w hok ha (by omega))
 obtain ⟨⟨sh,at_,code⟩,hsh⟩:∃ s,shapesV l (x.h,x.v,x.c)=s:=⟨_,rfl⟩
 rw [hsh] at SP TH VV
 simp only at TH VV
 have H:=zH hs
 have HO:=zH (Old.now hs)
 have HD:=zH (Old.now hd)
 have HX:=zH hx
 have HF:=zH hf
 have hmax:n≤9223372036854775807:=Nat.le_trans hs.cap_le hs.max_le
 clear hr hs hd hf hx hsh c1' hn
 have FR:=zH (Far.refl w)
 obtain ⟨w1,hw_w1,BA,k_w1⟩:=nB w #[.int .i64 x.h,.int .i64 x.v,.int .i64 x.c,.slice D m cm] 27
 replace FR:=zH (FR.out.fut k_w1)
 clear k_w1
 have l1:w.heap.size < w1.heap.size:=by rw [← hw_w1];simp
 obtain ⟨ok,hok⟩:∃ b,x.ok=b:=⟨_,rfl⟩
 rw [hok] at RA VV TO
 have OK:=zH hok
 clear hok
 cases ok
 case false =>
  have R:=zH (show r=([],-1,5) by rw [VV.out,if_pos rfl])
  clear VV
  go_enter Tryz.func7,Tryz.ntmps7
  go_wp2_with (refine lB 27 (.tmp 3) w.heap.size BA.out Tryz.underlying27 ?_)
  clear hw_w1
  refine (RA.out _).mono ?_
  rintro e w2 ⟨rfl,hb⟩
  replace FR:=zH (FR.out.fut hb)
  replace BA:=zH (BA.out.fut hb)
  clear hb
  go_wp2_with fail
  go_ret3
  rw [R.out]
  exact RetVals.none FR.out.out
 rw [if_neg (by decide)] at VV
 by_cases c2:code=0
 rotate_left
 ·have t2:(code != 0)=true:=by simpa using c2
  have R:=zH (show r=([],at_,code) by rw [VV.out,if_pos c2])
  clear c2 VV
  go_enter Tryz.func7,Tryz.ntmps7
  go_wp2_with (refine lB 27 (.tmp 3) w.heap.size BA.out Tryz.underlying27 ?_)
  clear hw_w1
  refine (RA.out _).mono ?_
  rintro e w2 ⟨rfl,hb⟩
  replace FR:=zH (FR.out.fut hb)
  replace BA:=zH (BA.out.fut hb)
  clear hb
  go_wp2_with (refine wpList_load_blk rfl 24 (.tmp 23) rfl w.heap.size 0 rfl _ #[.int .i64 x.h,.int .i64 x.v,.int .i64 x.c,.slice D m cm] #[.int .i64 x.h,.int .i64 x.v,.int .i64 x.c] _ BA.out Tryz.underlying24 rfl (by kernel_rfl) rfl ?_)
  refine (SP.out _ (HO.out.fut FR.out.out).all).mono ?_
  rintro e w3 ⟨B1,m1,c1,rfl,-,hb⟩
  replace FR:=zH (FR.out.fut hb)
  replace BA:=zH (BA.out.fut hb)
  clear hb
  simp only
  go_wp2_with fail
  go_ret3
  rw [R.out]
  exact RetVals.none FR.out.out
 subst c2
 obtain ⟨hn8,hn0,hth⟩:=TH.out rfl
 have t2:((0:Int) != 0)=false:=rfl
 have THR:=zH hth
 have V2:=zH (show r=endV27 n (runV l x n) by rw [VV.out,if_neg (by decide)])
 rw [show l.length=n from H.out.n_eq] at hn8 hn0
 clear VV TH hth
 go_enter Tryz.func7,Tryz.ntmps7
 go_wp2_with (refine lB 27 (.tmp 3) w.heap.size BA.out Tryz.underlying27 ?_)
 clear hw_w1
 refine (RA.out _).mono ?_
 rintro e w2 ⟨rfl,hb⟩
 replace FR:=zH (FR.out.fut hb)
 replace BA:=zH (BA.out.fut hb)
 clear hb
 go_wp2_with (refine wpList_load_blk rfl 24 (.tmp 23) rfl w.heap.size 0 rfl _ #[.int .i64 x.h,.int .i64 x.v,.int .i64 x.c,.slice D m cm] #[.int .i64 x.h,.int .i64 x.v,.int .i64 x.c] _ BA.out Tryz.underlying24 rfl (by kernel_rfl) rfl ?_)
 refine (SP.out _ (HO.out.fut FR.out.out).all).mono ?_
 rintro e w3 ⟨B1,m1,c1,rfl,-,hb⟩
 replace FR:=zH (FR.out.fut hb)
 replace BA:=zH (BA.out.fut hb)
 clear hb
 simp only
 have a3:=BA.out.cell 3
 simp only [gX] at a3
 clear RA SP
 go_wp2_with (refine wpList_load_blk rfl 24 (.tmp 34) rfl w.heap.size 0 rfl _ #[.int .i64 x.h,.int .i64 x.v,.int .i64 x.c,.slice D m cm] #[.int .i64 x.h,.int .i64 x.v,.int .i64 x.c] _ BA.out Tryz.underlying24 rfl (by kernel_rfl) rfl ?_)
 refine (TO.out _ (by trivial) (HD.out.fut FR.out.out).all).mono ?_
 rintro e w4 ⟨D4,m4,c4,rfl,s4,hb⟩
 have S4:=zH (New.of s4 FR.out)
 clear s4 a3 TO
 replace FR:=zH (FR.out.fut hb)
 replace BA:=zH (BA.out.fut hb)
 clear hb
 obtain ⟨w5,hw_w5,BX,k_w5⟩:=nB w4 #[.int .i64 x.h,.int .i64 x.v,.int .i64 x.c,.slice D4 m4 c4] 27
 replace FR:=zH (FR.out.fut k_w5)
 replace BA:=zH (BA.out.fut k_w5)
 replace S4:=zH (S4.out.fut k_w5)
 clear k_w5
 go_wp2_with (first
  | (refine wpList_load_blk rfl 27 (.tmp 10) rfl w4.heap.size 0 rfl _ _ #[.int .i64 x.h,.int .i64 x.v,.int .i64 x.c,.slice D4 m4 c4] _ BX.out Tryz.underlying27 rfl (by kernel_rfl) rfl ?_)
  | (refine wpList_lit1 rfl (.tmp 41) rfl ei_vals #[.int .i64 x.h,.int .i64 x.v,.int .i64 x.c,.slice D4 m4 c4] rfl rfl (by decide) ?_))
 have z5:=FR.out.size
 go_loopw [12,45] (fun u i wr=>∃ (k:Nat) (out:List Tensor) (S:Nat → Prop),k≤n∧i=.int .i64 k∧runV l x k=.on out∧Own tTensor wr S w.heap.size 27 u (k+1) out∧(∀ b,S b → bin w.heap.size wr.heap.size b∧some b ≠ u.ownBlock)∧Below w.heap.size w wr) (fun _ i _=>n - (intOf i).toNat)
 case atStart =>
  refine ⟨0,[x],bin w.heap.size w5.heap.size,Nat.zero_le _,rfl,rfl,Own.one z5 (trep HX.out ?_),fun b hb=>⟨⟨hb.1,by have:=hb.2;simp;omega⟩,by simp [Value.ownBlock];have:=hb.2;omega⟩,FR.out.out.alloc z5 _⟩
  exact S4.out.out.keep fun b hb=>by rw [heap_alloc_get,if_neg (by have:=hb.2;omega)]
 case round =>
  clear FR BA BX z5 S4 hw_w5
  obtain ⟨k,out,S,hk,rfl,hrun,hown,hSS,hb⟩:=hrel
  have HB:=zH hb
  have ON:=zH hown
  have HR:=zH hrun
  have SS:=zH hSS
  obtain ⟨A1,c1,rfl,sl⟩:=hown.sl (S':=bin w.heap.size wr.heap.size) (by decide) (fun b h1 h2=>⟨h1,h2⟩) (fun b h=>(hSS b h).1)
  have SL:=zH sl
  clear hb hown hrun sl hSS
  by_cases hlt:k < n
  ·have p1:(k:Int) < (n:Int):=by omega
   obtain ⟨d,b0,off,W,nw,cw,B,nb,cb,hd,rfl,_,_,hin,hw8,hw32,hrg⟩:=(H.out.below HB.out (fun _ h=>h)).node_at k hlt
   have hsz:=HF.out d (List.mem_of_getElem? hd)
   have hnx:=runV_next HR.out hd
   have q8:=hw8.n_eq
   have q32:=hw32.n_eq
   have TK:=zH (THR.out k d hd)
   have RG:=zH hrg
   have HIN:=zH hin
   have HW:=zH (hw8.more (blo_more HB.out.size))
   have HW32:=zH (hw32.more (blo_more HB.out.size))
   have NG:=zH (moreV_ok (d:=d) (l:=out))
   obtain ⟨⟨y,ye⟩,hy⟩:∃ q,moreV d out=q:=⟨_,rfl⟩
   rw [hy] at hnx NG
   simp only at hnx NG
   have NX:=zH hnx
   have HY:=zH hy
   clear hd hin hw8 hw32 hrg hnx hy
   have zr:=HB.out.size
   go_wp2_with (first
    | (refine wpList_load_mid rfl 44 (.tmp 48) rfl b0 (off+k*19) rfl _ _ RG.out Tryz.underlying44 rfl (by kernel_rfl) ?_)
    | (refine wpList_store_all rfl 44 (.tmp 15) (.tmp 49) rfl wr.heap.size (nN d.kind d.a d.b d.k d.s d.p d.out d.za d.zb W nw cw B nb cb d.qm d.qs d.qz d.rm d.rs d.rz d.lo d.hi) rfl rfl _ _ (Blk.now _ _ _ _ rfl) rfl (by kernel_rfl) (by simp [Value.oneCell']) ?_;intro w7 B7 g7;have G7:=zH (show Below wr.heap.size wr w7 from ((Below.refl _ _).alloc (Nat.le_refl _) _).grown g7 (by simp) (fun k h=>by have:=Option.some.inj h;omega));have BD:=zH B7;clear B7 g7)
    | (refine wpList_load_row rfl 44 (.tmp 15) rfl wr.heap.size rfl _ _ (0,0) _ BD.out.heap Tryz.underlying44 rfl (by kernel_rfl) ?_))
   have z7:=G7.out.size
   refine (gmore_any d W nw cw B nb cb A1 (k+1) c1 out w7 HIN.out (HW.out.later G7.out (Nat.le_refl _)) (HW32.out.later G7.out (Nat.le_refl _)) (by omega) ((SL.out.more bin_blo).later G7.out (Nat.le_refl _)) TK.out).mono ?_
   rw [HY.out]
   rintro e w8 ⟨D8,m8,c8,rfl,s8,hb⟩
   have S8:=zH (New.of s8 (Far.mk (below_later G7.out HB.out)))
   have G8:=zH (below_later hb G7.out)
   have O8:=zH ((ON.out.below G7.out (Nat.le_refl _) (fun b h=>(SS.out b h).1.2)).below hb (Nat.le_refl _) (fun b h=>Nat.lt_of_lt_of_le (SS.out b h).1.2 z7))
   have OL:=zH ON.out.lt
   have z8:=hb.size
   have y8:=s8
   have Y8:=zH (show ∀ b,bin w7.heap.size w8.heap.size b → wr.heap.size≤b from fun b h=>by have:=h.1;omega)
   have S9:=zH y8
   clear hb HY s8 y8
   obtain ⟨w9,hw_w9,BX,k_w9⟩:=nB w8 #[.int .i64 y.h,.int .i64 y.v,.int .i64 y.c,.slice D8 m8 c8] 27
   replace S8:=zH (S8.out.fut k_w9)
   clear k_w9
   have k9:Below w8.heap.size w8 w9:=by rw [← hw_w9];exact (Below.refl _ _).alloc (Nat.le_refl _) _
   have z9:=k9.size
   have F9:=zH (below_later k9 (below_later G8.out HB.out))
   have O9:=zH (O8.out.below k9 (Nat.le_refl _) (fun b h=>Nat.lt_of_lt_of_le (SS.out b h).1.2 (by omega)))
   have T9:=zH (S9.out.below k9 (fun b h=>h.2))
   by_cases hye:ye=0
   ·subst hye
    have t4:((0:Int) != 0)=false:=rfl
    have YI:=zH (ok_in (NG.out rfl))
    rw [if_neg (by decide)] at NX
    clear NG
    go_wp2_with (first
     | (refine wpList_load_blk rfl 27 (.tmp 16) rfl w8.heap.size 0 rfl _ _ #[.int .i64 y.h,.int .i64 y.v,.int .i64 y.c,.slice D8 m8 c8] _ BX.out Tryz.underlying27 rfl (by kernel_rfl) rfl ?_)
     | (refine wpList_lit1 rfl (.tmp 62) rfl ei_vals #[.int .i64 y.h,.int .i64 y.v,.int .i64 y.c,.slice D8 m8 c8] rfl rfl (by decide) ?_)
     | (at_builtin;refine wpList_push (W:=w9) (cs:=#[.int .i64 y.h,.int .i64 y.v,.int .i64 y.c,.slice D8 m8 c8]) (E:=27) (t:=tTensor) (S:=fun b=>S b ∨ bin w7.heap.size w8.heap.size b) (base:=w.heap.size) rfl (.tmp 61) (.tmp 63) rfl ei_vals rfl (O9.out.wide fun b h=>.inl h) 1 rfl y (trep YI.out (T9.out.more fun b h=>.inr h)) (by unfold maxLen;omega) (by omega) F9.out.size (fun b h=>(by rcases h with h|h;exact ⟨Nat.lt_of_lt_of_le (SS.out b h).1.2 (by omega),(SS.out b h).2⟩;exact ⟨Nat.lt_of_lt_of_le h.2 z9,fun e=>absurd (OL.out b e.symm).2 (Nat.not_lt.2 (Y8.out b h))⟩)) ?_;intro v' wz ownz gz atz))
    have bz:=F9.out.grown gz F9.out.size (fun j hj=>(OL.out j hj).1)
    refine ⟨⟨k+1,out ++ [y],_,by omega,by go_num,NX.out,ownz,fun b h=>?_,bz⟩,by simp [intOf];omega⟩
    have q:(w.heap.size≤b∧b < w9.heap.size)∧some b ≠ (Value.slice A1 (k+1) c1).ownBlock:=by
     rcases h with h|h
     ·exact ⟨⟨(SS.out b h).1.1,Nat.lt_of_lt_of_le (SS.out b h).1.2 (by omega)⟩,(SS.out b h).2⟩
     ·have:=Y8.out b h
      exact ⟨⟨by have:=HB.out.size;omega,Nat.lt_of_lt_of_le h.2 z9⟩,fun e=>absurd (OL.out b e.symm).2 (by omega)⟩
    refine ⟨⟨q.1.1,Nat.lt_of_lt_of_le q.1.2 gz.size⟩,fun e=>?_⟩
    rcases atz with a|a <;> rw [a] at e
    ·exact q.2 e
    ·have:=Option.some.inj e;have:=q.1.2;omega
   ·have t4:(ye != 0)=true:=by simpa using hye
    rw [if_pos hye] at NX
    have R:=zH (show r=([],(k:Int),ye) by rw [V2.out,runV_bad NX.out n (by omega)];rfl)
    clear hye NG NX V2
    go_wp2_with fail
    go_ret3
    rw [R.out]
    exact RetVals.none F9.out
  ·obtain rfl:k=n:=by omega
   have R:=zH (show r=(out,(k:Int),0) by rw [V2.out,HR.out];rfl)
   clear hlt hk V2
   go_wp2_with fail
   go_ret3
   rw [R.out]
   exact ⟨A1,_,c1,rfl,SL.out,HB.out⟩
end Go.Proofs.YtjkmjpjknmghlaaGreat
