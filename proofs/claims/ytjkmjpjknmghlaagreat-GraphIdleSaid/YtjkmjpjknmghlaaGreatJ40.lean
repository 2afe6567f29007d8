/-
  Who takes each value last (layer 27), in numbers.
  Who takes each value last (layer 27): graph.Last, the document's Last; the law's Few and known.
  The document's Last, Few, the fixed call, and the walk of the law GraphShapes (layer 27).
-/
import Derived.Test.YtjkmjpjknmghlaaGreatJ38
import Derived.Test.YtjkmjpjknmghlaaGreatJ32
set_option linter.unusedVariables false
set_option linter.unusedSimpArgs false
namespace Go.Proofs.YtjkmjpjknmghlaaGreat
open Go.RowKit Go.ChangeShapes Go.WideShapes
set_option maxRecDepth 100000
def takesB (d:Node) (k:Nat) (v:Int):Bool:=thereV d ((k:Int)+1) && (decide (d.a=v) || decide (secondV d=v))
def lastTo (l:List Node) (v:Int):Nat → Int
 | 0=>0
 | k+1=>if takesB (l.getD k noNode) k v then (k:Int)+1 else lastTo l v k
def lastV (l:List Node) (v:Int):Int:=if v=l.length then (l.length:Int)+1 else lastTo l v l.length
def lastRow (l:List Node) (n k:Nat):List Int:=(List.range (n+1)).map fun (v:Nat)=>lastTo l (v:Int) k
theorem lastRow_length (l:List Node) (n k:Nat):(lastRow l n k).length=n+1:=by simp [lastRow]
theorem lastRow_get (l:List Node) (n k v:Nat) (h:v≤n):(lastRow l n k)[v]?=some (lastTo l (v:Int) k):=by
 unfold lastRow
 rw [List.getElem?_map,List.getElem?_range (by omega)]
 rfl
theorem lastRow_skip {l:List Node} {n k:Nat} {d:Node} (hd:l[k]?=some d) (h:thereV d ((k:Int)+1)=false):lastRow l n (k+1)=lastRow l n k:=by
 have e:l.getD k noNode=d:=by rw [List.getD_eq_getElem?_getD,hd];rfl
 unfold lastRow
 apply List.map_congr_left
 intro v _
 show (if takesB (l.getD k noNode) k v then _ else _)=_
 rw [e]
 unfold takesB
 rw [h]
 rfl
theorem lastRow_put {l:List Node} {n k:Nat} {d:Node} (hd:l[k]?=some d) (h:thereV d ((k:Int)+1)=true) (hk:k < n) :
  lastRow l n (k+1)=((lastRow l n k).set d.a.toNat ((k:Int)+1)).set (secondV d).toNat ((k:Int)+1):=by
 have e:l.getD k noNode=d:=by rw [List.getD_eq_getElem?_getD,hd];rfl
 obtain ⟨b1,b2,b3,b4⟩:=there_bd h
 apply List.ext_getElem?
 intro v
 rw [List.getElem?_set,List.getElem?_set]
 simp only [List.length_set,lastRow_length]
 by_cases hv:v≤n
 ·rw [lastRow_get _ _ _ _ hv,lastRow_get _ _ _ _ hv]
  have:lastTo l (v:Int) (k+1)=if takesB d k v then (k:Int)+1 else lastTo l (v:Int) k:=by
   show (if takesB (l.getD k noNode) k v then _ else _)=_
   rw [e]
  rw [this]
  unfold takesB
  rw [h]
  by_cases q1:(secondV d).toNat=v
  ·rw [if_pos q1]
   have:secondV d=(v:Int):=by omega
   simp [this];omega
  ·rw [if_neg q1]
   have n1:¬ secondV d=(v:Int):=by omega
   by_cases q2:d.a.toNat=v
   ·rw [if_pos q2]
    have:d.a=(v:Int):=by omega
    simp [this];omega
   ·rw [if_neg q2]
    have n2:¬ d.a=(v:Int):=by omega
    simp [n1,n2]
 ·rw [List.getElem?_eq_none (by rw [lastRow_length];omega),List.getElem?_eq_none (by rw [lastRow_length];omega)]
  by_cases q1:(secondV d).toNat=v
  ·omega
  ·rw [if_neg q1]
   by_cases q2:d.a.toNat=v
   ·omega
   ·rw [if_neg q2]
theorem takes_in {d:Node} {m:Int} (h:thereV d m=true) (j:Nat) (hj:j < (takesV d).length):0≤(takesV d).getD j 0∧(takesV d).getD j 0 < m:=by
 unfold thereV at h
 simp only [Bool.and_eq_true,Bool.or_eq_true,decide_eq_true_eq] at h
 unfold takesV at *
 by_cases k6:d.kind=6
 ·rw [if_pos k6] at hj ⊢
  match j,hj with
  | 0,_=>exact h.1
  | 1,_=>exact h.2.elim (fun q=>absurd k6 q) id
 ·rw [if_neg k6] at hj ⊢
  match j,hj with
  | 0,_=>exact h.1
def putSome (r:List Int) (t:List Int) (x:Int):Nat → List Int
 | 0=>r
 | j+1=>(putSome r t x j).set (t.getD j 0).toNat x
theorem lastRow_takes {l:List Node} {n k:Nat} {d:Node} (hd:l[k]?=some d) (h:thereV d ((k:Int)+1)=true) (hk:k < n) :
  putSome (lastRow l n k) (takesV d) ((k:Int)+1) (takesV d).length=lastRow l n (k+1):=by
 rw [lastRow_put hd h hk]
 unfold takesV secondV
 by_cases k6:d.kind=6
 ·rw [if_pos k6,if_pos k6];rfl
 ·rw [if_neg k6,if_neg k6,List.set_set];rfl
def lastsV (l:List Node):List Int:=(List.range (l.length+1)).map fun (v:Nat)=>lastV l (v:Int)
theorem lastsV_length (l:List Node):(lastsV l).length=l.length+1:=by simp [lastsV]
theorem lastRow_end (l:List Node):(lastRow l l.length l.length).set l.length ((l.length:Int)+1)=lastsV l:=by
 apply List.ext_getElem?
 intro v
 rw [List.getElem?_set,lastRow_length]
 by_cases hv:v≤l.length
 ·unfold lastsV
  rw [List.getElem?_map,List.getElem?_range (by omega),lastRow_get _ _ _ _ hv]
  show _=some (lastV l (v:Int))
  unfold lastV
  by_cases q:l.length=v
  ·rw [if_pos q,if_pos (by omega),if_pos (by omega)]
  ·rw [if_neg q,if_neg (by omega)]
 ·rw [if_neg (by omega),List.getElem?_eq_none (by rw [lastRow_length];omega),List.getElem?_eq_none (by rw [lastsV_length];omega)]
theorem lastRow_zero (l:List Node) (n:Nat):lastRow l n 0=List.replicate (n+1) 0:=by
 apply List.ext_getElem?
 intro v
 by_cases hv:v≤n
 ·rw [lastRow_get _ _ _ _ hv,List.getElem?_replicate,if_pos (by omega)];rfl
 ·rw [List.getElem?_eq_none (by rw [lastRow_length];omega),List.getElem?_eq_none (by simp;omega)]
set_option maxHeartbeats 8000000 in
theorem last_any (A:Option Addr) (n cap:Nat) (l:List Node) (w:World) (hs:Sl tNode w (blo w.heap.size) A n cap l) (h12:n≤12) :
  Calls Tryz.prog 12 #[.slice A n cap] w (RetSl (tInt .i64) w (lastsV l)):=by
 have hn:=hs.n_eq
 have LE:=zH (lastRow_end l)
 rw [hn] at LE
 obtain ⟨r,hr⟩:∃ r,lastsV l=r:=⟨_,rfl⟩
 rw [hr] at LE ⊢
 have HN:=zH hn
 have H:=zH hs
 clear hs hr hn
 go_enter Tryz.func12,Tryz.ntmps12
 go_wp2_with (at_make;refine wpList_make (t:=tInt .i64) (S:=fun _=>False) (base:=w.heap.size) rfl _ _ rfl ei_int .i64 .i64 _ _ (n+1) rfl rfl (by simp) (by simp) ?_ ?_ ?_ 0 ⟨rfl,by decide⟩ (fun _ h=>h.elim) ?_;rotate_right;intro w1 hown hg)
 rotate_left
 ·omega
 ·unfold maxLen;omega
 ·simp
 have HO:=zH hown
 have B1:=zH ((Below.refl w.heap.size w).grown hg (Nat.le_refl _) (by simp))
 clear hown hg
 go_loopw [14] (fun i wr=>∃ k:Nat,k≤n∧i=.int .i64 k∧Below w.heap.size w wr ∧
   Own (tInt .i64) wr (fun _=>False) w.heap.size 3 (.slice (some ⟨w.heap.size,0,none⟩) (n+1) (n+1)) (n+1) (lastRow l n k)) (fun i _=>n - (intOf i).toNat)
 case atStart=>exact ⟨0,Nat.zero_le _,rfl,B1.out,by rw [lastRow_zero];exact HO.out⟩
 case round =>
  obtain ⟨k,hk,rfl,hb,hown⟩:=hrel
  have HB:=zH hb
  have ON:=zH hown
  clear hb hown B1 HO
  by_cases hlt:k < n
  ·have p1:(k:Int) < (n:Int):=by omega
   obtain ⟨d,b0,off,W,nw,cw,B,nb,cb,hd,rfl,_,_,hin,hw8,hw32,hrg⟩:=(H.out.below HB.out (fun _ h=>h)).node_at k hlt
   have ia:=hin.a
   have ib:=hin.b
   have RG:=zH hrg
   have TI:=zH (fun h=>takes_in (d:=d) (m:=(k:Int)+1) h)
   have TR:=zH (fun w=>takes_any d W nw cw B nb cb w ia ib)
   have TH:=zH (fun w=>there_any d W nw cw B nb cb ((k:Int)+1) w ia ib)
   have LS:=zH (fun h=>lastRow_skip (l:=l) (n:=n) hd h)
   have LT:=zH (fun h=>lastRow_takes (l:=l) (n:=n) hd h hlt)
   clear hd hin hw8 hw32 hrg ia ib
   obtain ⟨th,hth⟩:∃ x,thereV d ((k:Int)+1)=x:=⟨_,rfl⟩
   rw [hth] at TI TH LS LT
   clear hth
   go_wp2_with (first
    | (refine wpList_load_mid rfl 44 (.tmp 17) rfl b0 (off+k*19) rfl _ _ RG.out Tryz.underlying44 rfl (by kernel_rfl) ?_)
    | (refine wpList_store_all rfl 44 (.tmp 5) (.tmp 18) rfl wr.heap.size (nN d.kind d.a d.b d.k d.s d.p d.out d.za d.zb W nw cw B nb cb d.qm d.qs d.qz d.rm d.rs d.rz d.lo d.hi) rfl rfl _ _ (Blk.now _ _ _ _ rfl) rfl (by kernel_rfl) (by simp [Value.oneCell']) ?_;intro w7 B7 g7;have G7:=zH (show Below wr.heap.size wr w7 from ((Below.refl _ _).alloc (Nat.le_refl _) _).grown g7 (by simp) (fun k h=>by have:=Option.some.inj h;omega));have BD:=zH B7;clear B7 g7)
    | (refine wpList_load_row rfl 44 (.tmp 5) rfl wr.heap.size rfl _ _ (0,0) _ BD.out.heap Tryz.underlying44 rfl (by kernel_rfl) ?_))
   refine (TH.out _).mono ?_
   rintro e w8 ⟨rfl,hb⟩
   have G8:=zH (below_later hb (below_later G7.out HB.out))
   have O8:=zH ((ON.out.below G7.out (Nat.le_refl _) (fun _ h=>h.elim)).below hb (Nat.le_refl _) (fun _ h=>h.elim))
   replace BD:=zH (BD.out.fut hb)
   clear hb TH ON
   cases th with
   | false =>
    have E:=zH (LS.out rfl)
    clear LS LT TI TR
    go_wp2_with fail
    exact ⟨⟨k+1,by omega,by go_num,G8.out,by rw [E.out];exact O8.out⟩,by simp [intOf];omega⟩
   | true =>
    have E:=zH (LT.out rfl)
    have TJ:=zH (TI.out rfl)
    clear LS LT TI
    obtain ⟨t,ht⟩:∃ t,takesV d=t:=⟨_,rfl⟩
    rw [ht] at E TJ TR
    clear ht
    go_wp2_with (refine wpList_load_row rfl 44 (.tmp 5) rfl wr.heap.size rfl _ _ (0,0) _ BD.out.heap Tryz.underlying44 rfl (by kernel_rfl) ?_)
    refine (TR.out _).mono ?_
    rintro e w9 ⟨A2,m,c2,rfl,hs2,hb⟩
    have hm:=hs2.n_eq
    have HM:=zH hm
    have hm2:=hs2.cap_le
    have hm3:=hs2.max_le
    have hm4:m≤9223372036854775807:=Nat.le_trans hm2 hm3
    have H2:=zH hs2
    have G9:=zH (below_later hb G8.out)
    have O9:=zH (O8.out.below hb (Nat.le_refl _) (fun _ h=>h.elim))
    have z8:=G8.out.size
    have lt8:=(O8.out.lt _ rfl).2
    have z9:=hb.size
    clear hb hs2 hm TR O8 BD hm2 hm3
    rw [HM.out] at E
    go_wp2_with fail
    go_loopw [27] (fun i wx=>∃ j:Nat,j≤m∧i=.int .i64 j∧Below w.heap.size w wx∧wx.heap.size=w9.heap.size∧Sl (tInt .i64) wx (bin w8.heap.size w9.heap.size) A2 m c2 t ∧
     Own (tInt .i64) wx (fun _=>False) w.heap.size 3 (.slice (some ⟨w.heap.size,0,none⟩) (n+1) (n+1)) (n+1) (putSome (lastRow l n k) t ((k:Int)+1) j)) (fun i _=>m - (intOf i).toNat)
    case atStart=>exact ⟨0,Nat.zero_le _,rfl,G9.out,rfl,H2.out,O9.out⟩
    case round =>
     obtain ⟨j,hj,rfl,hbx,hsz,hsl,hownx⟩:=hrel
     have HBX:=zH hbx
     have HSL:=zH hsl
     have HOX:=zH hownx
     have HSZ:=zH hsz
     clear hbx hsl hownx hsz
     by_cases hjm:j < m
     ·have p2:(j:Int) < (m:Int):=by omega
      obtain ⟨b2,off2,rfl,_,_,cj,_⟩:=HSL.out.int_at j hjm
      have hv:=TJ.out j (by rw [HM.out];exact hjm)
      obtain ⟨v,hvn⟩:∃ v:Nat,t.getD j 0=(v:Int):=⟨(t.getD j 0).toNat,by omega⟩
      rw [hvn] at cj hv
      have hvk:v < n+1:=by omega
      have p3:(v:Int) < (n:Int)+1:=by omega
      obtain ⟨x0,u0,_,_,c5,c6,c7,_⟩:=HOX.out.cell rfl v hvk
      have HV:=zH hvn
      clear hvn hv
      go_wp2_with fail
      obtain ⟨o3,g3⟩:=HOX.out.set1 rfl v (.int .i64 ((k:Int)+1)) ((k:Int)+1) ⟨rfl,by rw [inK_i64];omega⟩ (fun _ h=>h.elim)
      refine ⟨⟨j+1,by omega,by go_num,HBX.out.setCell (by simp) _,by simp [HSZ.out],HSL.out.keep fun b hb=>?_,?_⟩,by simp [intOf];omega⟩
      ·exact Below.heap_setCell _ _ _ _ (by have:=hb.1;show b ≠ w.heap.size;omega)
      ·show Own _ _ _ _ _ _ _ ((putSome (lastRow l n k) t ((k:Int)+1) j).set (t.getD j 0).toNat ((k:Int)+1))
       rw [HV.out]
       exact o3
     ·obtain rfl:j=m:=by omega
      clear hjm hj
      go_wp2_with fail
      exact ⟨⟨k+1,by omega,by go_num,HBX.out,by rw [← E.out];exact HOX.out⟩,by simp [intOf];omega⟩
  ·obtain rfl:k=n:=by omega
   obtain ⟨x0,u0,_,_,c5,c6,c7,_⟩:=ON.out.cell rfl k (by omega)
   clear hlt hk
   go_wp2_with fail
   obtain ⟨o3,g3⟩:=ON.out.set1 rfl k (.int .i64 ((k:Int)+1)) ((k:Int)+1) ⟨rfl,by rw [inK_i64];omega⟩ (fun _ h=>h.elim)
   go_ret
   rw [LE.out] at o3
   exact o3.ret (by decide) (HB.out.setCell (Nat.le_refl _) _) (fun _ h=>h.elim)
def fewN (l:List Node):Prop:=l.length≤12∧∀ d ∈ l,d.w.length≤1000∧d.bias.length≤100
set_option maxHeartbeats 8000000 in
theorem few27_any (A:Option Addr) (n cap:Nat) (l:List Node) (h v c:Int) (D:Option Addr) (m cm:Nat) (w:World) (hs:Sl tNode w (blo w.heap.size) A n cap l) :
  Calls Tryz.prog 5 #[.slice A n cap,.agg #[.int .i64 h,.int .i64 v,.int .i64 c,.slice D m cm]] w fun e w'=>∃ b:Bool,e=.returned (.bool b)∧(b=true → fewN l∧m≤300)∧Below w.heap.size w w':=by
 have hn:=hs.n_eq
 have hmax:n≤9223372036854775807:=Nat.le_trans hs.cap_le hs.max_le
 have FR:=zH (Far.refl w)
 obtain ⟨w1,hw_w1,BA,k_w1⟩:=nB w #[.int .i64 h,.int .i64 v,.int .i64 c,.slice D m cm] 27
 replace FR:=zH (FR.out.fut k_w1)
 clear k_w1
 have c3:=BA.out.cell 3
 have l1:w.heap.size < w1.heap.size:=by rw [← hw_w1];simp
 have H:=zH (hs.later FR.out.out (Nat.le_refl _))
 have HN:=zH hn
 clear hs hn
 by_cases c1:12 < n
 ·have t1:decide (12 < (n:Int))=true:=by simp;omega
  go_enter Tryz.func5,Tryz.ntmps5
  go_wp2_with fail
  go_ret
  exact ⟨false,rfl,(fun h=>by cases h),FR.out.out⟩
 have t1:decide (12 < (n:Int))=false:=by simp;omega
 by_cases c2:300 < m
 ·have t2:decide (300 < (m:Int))=true:=by simp;omega
  go_enter Tryz.func5,Tryz.ntmps5
  go_wp2_with fail
  go_ret
  exact ⟨false,rfl,(fun h=>by cases h),FR.out.out⟩
 have t2:decide (300 < (m:Int))=false:=by simp;omega
 go_enter Tryz.func5,Tryz.ntmps5
 go_wp2_with fail
 clear c3 t1 t2 hw_w1
 go_loopw [5] (fun i wr=>∃ k:Nat,k≤n∧i=.int .i64 k∧Below w1.heap.size w1 wr∧∀ j d,j < k → l[j]?=some d → d.w.length≤1000∧d.bias.length≤100) (fun i _=>n - (intOf i).toNat)
 case atStart=>exact ⟨0,Nat.zero_le _,rfl,Below.refl _ _,fun j d hj=>absurd hj (Nat.not_lt_zero _)⟩
 case round =>
  obtain ⟨k,hk,rfl,hb,hq⟩:=hrel
  have HB:=zH hb
  have HQ:=zH hq
  clear hb hq
  by_cases hlt:k < n
  ·have p1:(k:Int) < (n:Int):=by omega
   obtain ⟨d,b0,off,W,nw,cw,B,nb,cb,hd,rfl,_,_,hin,hw8,hw32,hrg⟩:=(H.out.below HB.out (fun _ h=>h)).node_at k hlt
   have c9:=hrg 9 _ rfl
   have c10:=hrg 10 _ rfl
   have q8:=hw8.n_eq
   have q32:=hw32.n_eq
   have m8:=Nat.le_trans hw8.cap_le hw8.max_le
   have m32:=Nat.le_trans hw32.cap_le hw32.max_le
   have HD:=zH hd
   clear hd hin hw8 hw32 hrg
   by_cases g1:1000 < nw
   ·have t3:decide (1000 < (nw:Int))=true:=by simp;omega
    clear q8 q32
    go_wp2_with fail
    go_ret
    exact ⟨false,rfl,(fun h=>by cases h),below_later HB.out FR.out.out⟩
   have t3:decide (1000 < (nw:Int))=false:=by simp;omega
   by_cases g2:100 < nb
   ·have t4:decide (100 < (nb:Int))=true:=by simp;omega
    clear q8 q32
    go_wp2_with fail
    go_ret
    exact ⟨false,rfl,(fun h=>by cases h),below_later HB.out FR.out.out⟩
   have t4:decide (100 < (nb:Int))=false:=by simp;omega
   have Q:=zH (show d.w.length≤1000∧d.bias.length≤100 by omega)
   clear q8 q32
   go_wp2_with fail
   refine ⟨⟨k+1,by omega,by go_num,HB.out,fun j d' hj hd'=>?_⟩,by simp [intOf];omega⟩
   by_cases hjk:j < k
   ·exact HQ.out j d' hjk hd'
   ·obtain rfl:j=k:=by omega
    rw [HD.out] at hd'
    cases hd'
    exact Q.out
  ·obtain rfl:k=n:=by omega
   have FN:=zH (show fewN l from ⟨by rw [HN.out];omega,fun d hd=>by
    obtain ⟨j,hj⟩:=List.getElem?_of_mem hd
    exact HQ.out j d (by have:=(List.getElem?_eq_some_iff.1 hj).1;rw [HN.out] at this;exact this) hj⟩)
   have MM:=zH (show m≤300 by omega)
   clear hlt hk
   go_wp2_with fail
   go_ret
   exact ⟨true,rfl,fun _=>⟨FN.out,MM.out⟩,below_later HB.out FR.out.out⟩
def flatN:Node:=⟨9,0,0,0,0,0,0,0,0,[],[],0,0,0,0,0,0,0,0⟩
theorem ei_node:EI Tryz.prog 22 44 (.agg (nN 0 0 0 0 0 0 0 0 0 none 0 0 none 0 0 0 0 0 0 0 0 0 0)) 19 168:=⟨Tryz.underlying22,by kernel_rfl,rfl,by decide⟩
theorem flatN_rep (w:World) (S:Nat → Prop):tNode.rep w S [.int .i64 9,.int .i64 0,.int .i64 0,.int .i64 0,.int .i64 0,.int .i64 0,.int .i64 0,.int .i8 0,.int .i8 0,.slice none 0 0,.slice none 0 0,.int .i32 0,.int .i64 0,.int .i8 0,.int .i32 0,.int .i64 0,.int .i8 0,.int .i8 0,.int .i8 0] flatN :=
 ⟨(9,0,0,0,0,0,0,0,0,[],[],(0,0,0),(0,0,0),0,0),rfl,
  _,_,rfl,⟨rfl,by decide⟩,_,_,rfl,⟨rfl,by decide⟩,_,_,rfl,⟨rfl,by decide⟩,_,_,rfl,⟨rfl,by decide⟩,_,_,rfl,⟨rfl,by decide⟩,_,_,rfl,⟨rfl,by decide⟩,_,_,rfl,⟨rfl,by decide⟩,_,_,rfl,⟨rfl,by decide⟩,_,_,rfl,⟨rfl,by decide⟩,
  _,_,rfl,(Sl.nil _ _ _).rep,_,_,rfl,(Sl.nil _ _ _).rep,_,_,rfl,⟨_,_,rfl,⟨rfl,by decide⟩,_,_,rfl,⟨rfl,by decide⟩,rfl,by decide⟩,_,_,rfl,⟨_,_,rfl,⟨rfl,by decide⟩,_,_,rfl,⟨rfl,by decide⟩,rfl,by decide⟩,_,_,rfl,⟨rfl,by decide⟩,rfl,by decide⟩
set_option maxHeartbeats 8000000 in
theorem known27_any (w:World):Calls Tryz.prog 6 #[] w fun e w'=>e=.returned (.bool true)∧Below w.heap.size w w':=by
 go_enter Tryz.func6,Tryz.ntmps6
 go_wp2_with (refine wpList_lit2 rfl (.tmp 1) (.tmp 2) rfl ei_node (.agg (nN 9 0 0 0 0 0 0 0 0 none 0 0 none 0 0 0 0 0 0 0 0 0 0)) (.agg (nN 9 0 0 0 0 0 0 0 0 none 0 0 none 0 0 0 0 0 0 0 0 0 0)) rfl rfl #[.int .i64 9,.int .i64 0,.int .i64 0,.int .i64 0,.int .i64 0,.int .i64 0,.int .i64 0,.int .i8 0,.int .i8 0,.slice none 0 0,.slice none 0 0,.int .i32 0,.int .i64 0,.int .i8 0,.int .i32 0,.int .i64 0,.int .i8 0,.int .i8 0,.int .i8 0,.int .i64 9,.int .i64 0,.int .i64 0,.int .i64 0,.int .i64 0,.int .i64 0,.int .i64 0,.int .i8 0,.int .i8 0,.slice none 0 0,.slice none 0 0,.int .i32 0,.int .i64 0,.int .i8 0,.int .i32 0,.int .i64 0,.int .i8 0,.int .i8 0,.int .i8 0] (by decide) (by decide) (by kernel_rfl) ?_)
 have b1:Below w.heap.size w (w.alloc (.cells #[.int .i64 9,.int .i64 0,.int .i64 0,.int .i64 0,.int .i64 0,.int .i64 0,.int .i64 0,.int .i8 0,.int .i8 0,.slice none 0 0,.slice none 0 0,.int .i32 0,.int .i64 0,.int .i8 0,.int .i32 0,.int .i64 0,.int .i8 0,.int .i8 0,.int .i8 0,.int .i64 9,.int .i64 0,.int .i64 0,.int .i64 0,.int .i64 0,.int .i64 0,.int .i64 0,.int .i8 0,.int .i8 0,.slice none 0 0,.slice none 0 0,.int .i32 0,.int .i64 0,.int .i8 0,.int .i32 0,.int .i64 0,.int .i8 0,.int .i8 0,.int .i8 0] 44)):=(Below.refl _ _).alloc (Nat.le_refl _) _
 refine (last_any _ _ _ [flatN,flatN] _ (Sl.of_block (heap_now _ _ _ rfl) (show blo _ _ by simp [blo]) (Nat.le_refl _) (by unfold maxLen;decide) rfl ((RowsOf.one (flatN_rep _ _)).snoc (us:=[.int .i64 9,.int .i64 0,.int .i64 0,.int .i64 0,.int .i64 0,.int .i64 0,.int .i64 0,.int .i8 0,.int .i8 0,.slice none 0 0,.slice none 0 0,.int .i32 0,.int .i64 0,.int .i8 0,.int .i32 0,.int .i64 0,.int .i8 0,.int .i8 0,.int .i8 0]) (flatN_rep _ _))) (by decide)).mono ?_
 rintro e w2 ⟨A,n,cap,rfl,hs,hb⟩
 rw [show lastsV [flatN,flatN]=[2,0,3] by decide] at hs
 have FR:=zH (below_later hb b1)
 have HS:=zH hs
 clear hs hb b1
 go_wp2_with fail
 refine (samei_eq _ _ _ _ _ _ [2,0,3] _ (HS.out.old.fut ((Below.refl _ _).alloc (Nat.le_refl _) _)) (Sl.lit [2,0,3] (heap_now _ _ _ rfl) rfl (by intro x hx;simp at hx;rcases hx with rfl|rfl|rfl <;> decide) (show blo _ _ by simp [blo]) rfl rfl (by simp [maxLen]))).mono ?_
 rintro e w3 ⟨rfl,hb⟩
 have G:=zH (below_later hb (FR.out.alloc FR.out.size _))
 clear hb HS
 go_wp2_with fail
 go_ret
 exact ⟨rfl,G.out⟩
theorem opens_nodes:Opens Tryz.prog 22 (tSlice tNode):=opens_slice Tryz.underlying22 (by kernel_rfl) (by decide) opens_node
end Go.Proofs.YtjkmjpjknmghlaaGreat
