/-
  What tells of one block behind the other what it costs (layer 31): cost.meter.
  What a bundle that may be tells of its shapes and costs.
  Blocks of a size that is gone through (layer 27): the document's Few.
  Exits (layer 30): the document's Check.
  A store as a list of requests; Len; what a store that is none tells (layer 42).
-/
import Derived.Test.YtppcjcigekoipaaGreatJ38
set_option linter.unusedVariables false
set_option linter.unusedSimpArgs false
namespace Go.Proofs.YtppcjcigekoipaaGreat
open Go.RowKit Go.ChangeShapes Go.WideShapes
set_option maxRecDepth 100000
set_option maxHeartbeats 4000000
def mtr (g1 g2:Nat):Value:=.func (.func 69) #[] #[.pointer (some ⟨g1,0,none⟩),.pointer (some ⟨g2,0,none⟩)]
theorem meter_any (s1 s2 s3 c:Int) (w:World) :
  Calls Tryz.prog 42 #[.agg (sN s1 s2 s3),.int .i64 c] w fun e w'=>∃ g1 g2,e=.returned (mtr g1 g2)∧w.heap.size≤g1∧g1 < g2∧Blk w' g1 23 (sN s1 s2 s3)∧Blk w' g2 3 #[.int .i64 c]∧Below w.heap.size w w':=by
 have H:=zH (Far.refl w)
 obtain ⟨w1,hw_w1,B1,k1⟩:=nB w (sN s1 s2 s3) 23
 replace H:=zN k1 H B1
 obtain ⟨w2,hw_w2,B2,k2⟩:=nB w1 #[.int .i64 c] 3
 replace H:=zN k2 H B2
 have l1:w.heap.size < w1.heap.size:=by rw [← hw_w1];simp
 clear B1 k1 B2 k2
 go_enter Tryz.func42,Tryz.ntmps42
 go_wp2_with fail
 go_ret
 exact ⟨w.heap.size,w1.heap.size,rfl,Nat.le_refl _,l1,H.out.1.2,H.out.2,H.out.1.1.out⟩
theorem meter1_any (b:BlkD) (L:Option Addr) (nl cl:Nat) (W:Option Addr) (nw cw:Nat) (B:Option Addr) (nb cb:Nat) (s1 s2 s3 c:Int) (g1 g2 n0:Nat) (w:World) (hb:BlkAt b L nl cl W nw cw B nb cb (blo n0) w) (hn:n0≤g1) (hg:g1 < g2)
  (b1:Blk w g1 23 (sN s1 s2 s3)) (b2:Blk w g2 3 #[.int .i64 c]) (hs:InK .i64 s1∧InK .i64 s2∧InK .i64 s3) (hf:fewB b) (ok:(shapesV b.nodes (s1,s2,s3)).2.2=0) (hcl:2≤c∧c≤16) :
  Calls Tryz.prog 69 #[.agg #[.slice L nl cl,.bool b.exit,.slice W nw cw,.slice B nb cb,.int .i32 b.head.need],.pointer (some ⟨g1,0,none⟩),.pointer (some ⟨g2,0,none⟩)] w fun e w'=>e=.returned (.tuple #[.int .i64 (blockC b (s1,s2,s3) c),.int .i64 0])∧Blk w' g1 23 (sN (outV b (s1,s2,s3)).1 (outV b (s1,s2,s3)).2.1 (outV b (s1,s2,s3)).2.2)∧w.grownBy w' (some g1):=by
 have z1:=b1.lt
 have z2:=b2.lt
 have AT:=zH (hb.keep (S':=blo w.heap.size) (fun _ _=>rfl) (fun x (hx:x < n0)=>show x < w.heap.size by omega))
 have CB:=zH (fun w h=>costBlock_any b L nl cl W nw cw B nb cb (s1,s2,s3) c w h hs hf ok hcl)
 have CO:=zH (fun w h=>costOut_any b L nl cl W nw cw B nb cb (s1,s2,s3) w h hs hf ok)
 obtain ⟨bc,hbc⟩:∃ x,blockC b (s1,s2,s3) c=x:=⟨_,rfl⟩
 obtain ⟨⟨x1,x2,x3⟩,hx⟩:∃ x,outV b (s1,s2,s3)=x:=⟨_,rfl⟩
 rw [hbc] at CB
 rw [hbc]
 simp only [hx] at CO
 simp only [hx]
 obtain ⟨need,hnd⟩:∃ x,b.head.need=x:=⟨_,rfl⟩
 obtain ⟨ex,hex⟩:∃ x,b.exit=x:=⟨_,rfl⟩
 simp only [hnd,hex] at CB CO
 rw [hnd,hex]
 have H:=zH (And.intro (And.intro (Far.refl w) b1) b2)
 clear hbc hx hnd hex hb hs hf ok hcl b1 b2
 obtain ⟨w1,hw_w1,B1,k1⟩:=nB w #[.slice L nl cl,.bool ex,.slice W nw cw,.slice B nb cb,.int .i32 need] 49
 replace H:=zN k1 H B1
 clear B1 k1
 have cA:=H.out.1.2.cell 0
 go_enter Tryz.func69,Tryz.ntmps69
 go_wp2_with (first|(refine lB 49 (.tmp 3) w.heap.size H.out.2 Tryz.underlying49 ?_)|(refine lB 23 (.tmp 1) g1 H.out.1.1.2 Tryz.underlying23 ?_))
 refine (CB.out _ (AT.out.fut H.out.1.1.1.out)).mono ?_
 rintro e w2 ⟨rfl,hb⟩
 replace H:=zF hb H
 clear hb cA CB hw_w1
 go_wp2_with (first|(refine lB 49 (.tmp 3) w.heap.size H.out.2 Tryz.underlying49 ?_)|(refine lB 23 (.tmp 1) g1 H.out.1.1.2 Tryz.underlying23 ?_))
 refine (CO.out _ (AT.out.fut H.out.1.1.1.out)).mono ?_
 rintro e w3 ⟨rfl,hb⟩
 replace H:=zF hb H
 clear hb CO
 go_wp2_with (refine sB 23 (.tmp 1) (.tmp 22) g1 (sN x1 x2 x3) H.out.1.1.2 ?_;intro w4 b4 g4)
 go_ret2
 exact ⟨rfl,b4,(below_grown H.out.1.1.1.out).trans g4⟩
end Go.Proofs.YtppcjcigekoipaaGreat
namespace Go.Proofs.YtppcjcigekoipaaGreat
open Go.RowKit
theorem shapes_good {l:List Node} {s:Sh3} (h:(shapesV l s).2.2=0):GoodS ((shapesV l s).1.getD l.length (0,0,0)):=by
 unfold shapesV at h ⊢
 split at h
 ·cases h
 split at h
 ·cases h
 split at h
 ·cases h
 rename_i c1 c2 c3
 rw [if_neg c1,if_neg c2,if_neg c3]
 obtain ⟨k,hk⟩:∃ k,l.length=k+1:=⟨l.length - 1,by omega⟩
 rw [hk] at h ⊢
 cases hr:runS l s (k+1) with
 | bad i e=>rw [hr] at h;exact absurd h (runS_err _ hr)
 | on out =>
  have hl:=(runS_ok _ hr).len
  unfold runS at hr
  cases hq:runS l s k with
  | bad i e=>rw [hq] at hr;cases hr
  | on o =>
   rw [hq] at hr
   simp only at hr
   by_cases c:(nextV (l.getD k noNode) o).2=0
   ·rw [if_neg (by simpa using c)] at hr
    cases hr
    have ho:o.length=k+1:=by simpa using hl
    show GoodS ((o ++ [(nextV (l.getD k noNode) o).1]).getD (k+1) (0,0,0))
    rw [List.getD_eq_getElem?_getD,List.getElem?_append_right (by omega),ho,Nat.sub_self]
    exact nextV_good c
   ·rw [if_pos c] at hr;cases hr
theorem GoodS.in_ {x y z:Int} (h:GoodS (x,y,z)):InK .i64 x∧InK .i64 y∧InK .i64 z:=by
 have h1:=h.h
 have h2:=h.v
 have h3:=h.c
 simp only at h1 h2 h3
 exact ⟨by rw [inK_i64];omega,by rw [inK_i64];omega,by rw [inK_i64];omega⟩
theorem inV_good {m:List BlkD} {s:Sh3} {cl:Int} (h:ModelOk m s cl) (hs:GoodS s):∀ {k:Nat},k≤m.length → GoodS (inV m s k)
 | 0,_=>hs
 | k+1,hk=>shapes_good (h.blocks k hk).shapes
theorem rowC_len (m:List BlkD) (s:Sh3) (cl:Int):(rowC m s cl).length=m.length:=by unfold rowC;rw [List.length_map,List.length_range]
theorem rowC_at {m:List BlkD} {s:Sh3} {cl:Int} {k:Nat} (h:k < m.length):(rowC m s cl)[k]?=some (blockC (m.getD k noBlk) (inV m s k) cl):=by
 unfold rowC
 rw [List.getElem?_map,List.getElem?_range h]
 rfl
theorem blockC_bd {b:BlkD} {s:Sh3} {cl:Int} (h:(shapesV b.nodes s).2.2=0):1≤blockC b s cl∧blockC b s cl≤300000000:=by
 have h1:=sumC_bd b.nodes (shapesV b.nodes s).1 b.nodes.length
 have h2:=exitC_bd b (outV b s) cl
 have h3:=(shapes_few h).2
 unfold blockC
 omega
theorem blockC_in {b:BlkD} {s:Sh3} {cl:Int} (h:(shapesV b.nodes s).2.2=0):InK .i64 (blockC b s cl):=by
 have:=blockC_bd (cl:=cl) h
 rw [inK_i64];omega
theorem BunOk.good {u:Bun} (h:BunOk u):GoodS (u.h,u.v,u.c):=GoodS.of h.input
theorem BunOk.model {u:Bun} (h:BunOk u) {k:Nat} {m:List BlkD} (hm:u.models[k]?=some m):ModelOk m (u.h,u.v,u.c) u.cl:=by
 have:=h.models k (List.getElem?_eq_some_iff.1 hm).1
 rwa [getD_at hm] at this
theorem tableC_at {u:Bun} {k:Nat} {m:List BlkD} (hm:u.models[k]?=some m):(tableC u)[k]?=some (rowC m (u.h,u.v,u.c) u.cl):=by
 unfold tableC
 rw [List.getElem?_map,hm]
 rfl
theorem insV_at {m:List BlkD} {s:Sh3} {k:Nat} (h:k≤m.length):(insV m s)[k]?=some (inV m s k):=by
 unfold insV
 rw [List.getElem?_map,List.getElem?_range (by omega)]
 rfl
theorem insU_at {u:Bun} {k:Nat} {m:List BlkD} (hm:u.models[k]?=some m):(insU u)[k]?=some (insV m (u.h,u.v,u.c)):=by
 unfold insU
 rw [List.getElem?_map,hm]
 rfl
theorem tab_len (u:Bun):(tableC u).length=u.models.length:=by unfold tableC;rw [List.length_map]
theorem tab_rows {u:Bun} (hf:fewU u):∀ r ∈ tableC u,r.length≤100:=fun r hr=>by
 unfold tableC at hr
 obtain ⟨m,hm,rfl⟩:=List.mem_map.1 hr
 rw [rowC_len]
 have:=(hf.2 m hm).1
 omega
end Go.Proofs.YtppcjcigekoipaaGreat
namespace Go.Proofs.YtppcjcigekoipaaGreat
open Go.RowKit Go.ChangeShapes Go.WideShapes
set_option maxRecDepth 100000
set_option maxHeartbeats 4000000
def fewN (l:List Node):Prop:=l.length≤12∧∀ d ∈ l,d.w.length≤1000∧d.bias.length≤100
set_option maxHeartbeats 8000000 in
theorem few27_any (A:Option Addr) (n cap:Nat) (l:List Node) (h v c:Int) (D:Option Addr) (m cm:Nat) (w:World) (hs:Sl tNode w (blo w.heap.size) A n cap l) :
  Calls Tryz.prog 13 #[.slice A n cap,.agg (tN h v c D m cm)] w fun e w'=>∃ b:Bool,e=.returned (.bool b)∧(b=true → fewN l∧m≤300)∧Below w.heap.size w w':=by
 have hn:=hs.n_eq
 have hmax:n≤9223372036854775807:=Nat.le_trans hs.cap_le hs.max_le
 have FR:=zH (Far.refl w)
 obtain ⟨w1,hw_w1,BA,k_w1⟩:=nB w (tN h v c D m cm) 51
 replace FR:=zH (FR.out.fut k_w1)
 clear k_w1
 have c3:=BA.out.cell 3
 have l1:w.heap.size < w1.heap.size:=by rw [← hw_w1];simp
 have H:=zH (hs.later FR.out.out (Nat.le_refl _))
 have HN:=zH hn
 clear hs hn
 by_cases c1:12 < n
 ·have t1:decide (12 < (n:Int))=true:=by simp;omega
  go_enter Tryz.func13,Tryz.ntmps13
  go_wp2_with fail
  go_ret
  exact ⟨false,rfl,(fun h=>by cases h),FR.out.out⟩
 have t1:decide (12 < (n:Int))=false:=by simp;omega
 by_cases c2:300 < m
 ·have t2:decide (300 < (m:Int))=true:=by simp;omega
  go_enter Tryz.func13,Tryz.ntmps13
  go_wp2_with fail
  go_ret
  exact ⟨false,rfl,(fun h=>by cases h),FR.out.out⟩
 have t2:decide (300 < (m:Int))=false:=by simp;omega
 go_enter Tryz.func13,Tryz.ntmps13
 go_wp2_with fail
 clear c3 t1 t2 hw_w1
 go_loopw [5] (fun i wr=>∃ k:Nat,k≤n∧i=.int .i64 k∧Below w1.heap.size w1 wr∧∀ j d,j < k → l[j]?=some d → d.w.length≤1000∧d.bias.length≤100) (fun i _=>n - (intOf i).toNat)
 case atStart=>exact ⟨0,Nat.zero_le _,rfl,Below.refl _ _,fun j d hj=>absurd hj (Nat.not_lt_zero _)⟩
 case round =>
  obtain ⟨k,hk,rfl,hb,hq⟩:=hrel
  have HB:=zH hb
  have HQ:=zH hq
  clear hb hq
  by_cases hlt:k < n
  ·have p1:(k:Int) < (n:Int):=by omega
   obtain ⟨d,b0,off,W,nw,cw,B,nb,cb,hd,rfl,_,_,hin,hw8,hw32,hrg⟩:=(H.out.below HB.out (fun _ h=>h)).node_at k hlt
   have c9:=hrg 9 _ rfl
   have c10:=hrg 10 _ rfl
   have q8:=hw8.n_eq
   have q32:=hw32.n_eq
   have m8:=Nat.le_trans hw8.cap_le hw8.max_le
   have m32:=Nat.le_trans hw32.cap_le hw32.max_le
   have HD:=zH hd
   clear hd hin hw8 hw32 hrg
   by_cases g1:1000 < nw
   ·have t3:decide (1000 < (nw:Int))=true:=by simp;omega
    clear q8 q32
    go_wp2_with fail
    go_ret
    exact ⟨false,rfl,(fun h=>by cases h),below_later HB.out FR.out.out⟩
   have t3:decide (1000 < (nw:Int))=false:=by simp;omega
   by_cases g2:100 < nb
   ·have t4:decide (100 < (nb:Int))=true:=by simp;omega
    clear q8 q32
    go_wp2_with fail
    go_ret
    exact ⟨false,rfl,(fun h=>by cases h),below_later HB.out FR.out.out⟩
   have t4:decide (100 < (nb:Int))=false:=by simp;omega
   have Q:=zH (show d.w.length≤1000∧d.bias.length≤100 by omega)
   clear q8 q32
   go_wp2_with fail
   refine ⟨⟨k+1,by omega,by go_num,HB.out,fun j d' hj hd'=>?_⟩,by simp [intOf];omega⟩
   by_cases hjk:j < k
   ·exact HQ.out j d' hjk hd'
   ·obtain rfl:j=k:=by omega
    rw [HD.out] at hd'
    cases hd'
    exact Q.out
  ·obtain rfl:k=n:=by omega
   have FN:=zH (show fewN l from ⟨by rw [HN.out];omega,fun d hd=>by
    obtain ⟨j,hj⟩:=List.getElem?_of_mem hd
    exact HQ.out j d (by have:=(List.getElem?_eq_some_iff.1 hj).1;rw [HN.out] at this;exact this) hj⟩)
   have MM:=zH (show m≤300 by omega)
   clear hlt hk
   go_wp2_with fail
   go_ret
   exact ⟨true,rfl,fun _=>⟨FN.out,MM.out⟩,below_later HB.out FR.out.out⟩
theorem refCheck_any (h v c:Int) (W:Option Addr) (nw cw:Nat) (B:Option Addr) (nb cb:Nat) (need cl:Int) (w:World) (h0:InK .i64 h) (h1:InK .i64 v) (h2:InK .i64 c) (hnw:nw≤maxLen) (hnb:nb≤maxLen) (hcl:InK .i64 cl) :
  Calls Tryz.prog 47 #[.agg (sN h v c),.agg #[.slice W nw cw,.slice B nb cb,.int .i32 need],.int .i64 cl] w fun e w' =>
   e=.returned (.int .i64 (checkI (elems h v c) nw nb need cl))∧Below w.heap.size w w':=by
 have H:=zH (And.intro h0 (And.intro h1 h2))
 unfold maxLen at hnw hnb
 rw [inK_i64] at hcl
 clear h0 h1 h2
 obtain ⟨mb1,mb2⟩:=elems_bdv h v c
 have EL:=zH (fun w=>relems_any h c v w H.out.1 H.out.2.1 H.out.2.2)
 generalize elems h v c=m at *
 have FR:=zH (Far.refl w)
 obtain ⟨w1,hw_w1,BS,k_w1⟩:=nB w (sN h v c) 23
 replace FR:=zH (FR.out.fut k_w1)
 clear k_w1
 obtain ⟨w2,hw_w2,BH,k_w2⟩:=nB w1 #[.slice W nw cw,.slice B nb cb,.int .i32 need] 47
 replace FR:=zH (FR.out.fut k_w2)
 replace BS:=zH (BS.out.fut k_w2)
 clear k_w2
 have cS:=fun i=>BS.out.cell i
 have cH:=fun i=>BH.out.cell i
 by_cases z:m=0
 ·subst z
  have C:=zH (show (5:Int)=checkI 0 nw nb need cl by unfold checkI;rw [if_pos rfl])
  go_enter Tryz.func47,Tryz.ntmps47
  go_wp2_with fail
  clear hw_w1 hw_w2
  refine (EL.out _).mono ?_
  rintro e w3 ⟨rfl,hb⟩
  replace FR:=zH (FR.out.fut hb)
  clear hb
  go_wp2_with fail
  go_ret
  exact ⟨ret_int C.out,FR.out.out⟩
 have t0:(m == 0)=false:=by simp;exact z
 by_cases c1:cl < 2
 ·have t1:decide (cl < 2)=true:=by simp;exact c1
  have C:=zH (show (2:Int)=checkI m nw nb need cl by unfold checkI;rw [if_neg z,if_pos (.inl c1)])
  clear z c1
  go_enter Tryz.func47,Tryz.ntmps47
  go_wp2_with fail
  clear hw_w1 hw_w2
  refine (EL.out _).mono ?_
  rintro e w3 ⟨rfl,hb⟩
  replace FR:=zH (FR.out.fut hb)
  clear hb
  go_wp2_with fail
  go_ret
  exact ⟨ret_int C.out,FR.out.out⟩
 have t1:decide (cl < 2)=false:=by simp;omega
 by_cases c2:16 < cl
 ·have t2:decide (16 < cl)=true:=by simp;exact c2
  have C:=zH (show (2:Int)=checkI m nw nb need cl by unfold checkI;rw [if_neg z,if_pos (.inr c2)])
  clear z c1 c2
  go_enter Tryz.func47,Tryz.ntmps47
  go_wp2_with fail
  clear hw_w1 hw_w2
  refine (EL.out _).mono ?_
  rintro e w3 ⟨rfl,hb⟩
  replace FR:=zH (FR.out.fut hb)
  clear hb
  go_wp2_with fail
  go_ret
  exact ⟨ret_int C.out,FR.out.out⟩
 have t2:decide (16 < cl)=false:=by simp;omega
 have pb:0≤cl*m∧cl*m≤16*1024:=⟨Int.mul_nonneg (by omega) (by omega),Int.mul_le_mul (by omega) (by omega) (by omega) (by omega)⟩
 have C0:checkI m nw nb need cl=if (nw:Int) ≠ cl*m ∨ 16384 < nw ∨ (nb:Int) ≠ cl then 9 else if need < 0 then 11 else 0:=by unfold checkI;rw [if_neg z,if_neg (by omega)]
 have CC:=zH C0
 have e1:IntKind.i64.wrap (cl*m)=cl*m:=IntWalk.i64_in _ (by omega)
 clear C0
 obtain ⟨p,hp⟩:∃ p,cl*m=p:=⟨_,rfl⟩
 rw [hp] at e1 CC pb
 have e2:IntKind.i64.wrap (cl*m)=p:=by rw [hp];exact e1
 have E2:=zH e2
 clear hp e1 c1 c2 z e2
 obtain ⟨r,hr⟩:∃ r,checkI m nw nb need cl=r:=⟨_,rfl⟩
 rw [hr]
 have HR:=zH hr
 clear hr
 go_enter Tryz.func47,Tryz.ntmps47
 go_wp2_with fail
 clear hw_w1 hw_w2 cS cH
 refine (EL.out _).mono ?_
 rintro e w3 ⟨rfl,hb⟩
 replace FR:=zH (FR.out.fut hb)
 replace BH:=zH (BH.out.fut hb)
 replace BS:=zH (BS.out.fut hb)
 clear hb
 go_wp2_with fail
 have cH:∀ (x:Ext w3) (i:Nat),x.1.cell? ⟨w1.heap.size,i,none⟩=(#[.slice W nw cw,.slice B nb cb,.int .i32 need]:Array Value)[i]?:=fun x i=>(BH.out.ext x).cell i
 have cS:∀ (x:Ext w3) (i:Nat),x.1.cell? ⟨w.heap.size,i,none⟩=((sN h v c):Array Value)[i]?:=fun x i=>(BS.out.ext x).cell i
 have E1:=zH (fun x:Ext w3=>calls_ext x (EL.out x.1))
 have e2:=E2.out
 have t3:(((nw:Int) != p)=true∧(if (nw:Int) ≠ p ∨ 16384 < nw ∨ (nb:Int) ≠ cl then (9:Int) else if need < 0 then 11 else 0)=9) ∨
   (((nw:Int) != p)=false∧((decide ((16384:Int) < (nw:Int))=true∧(if (nw:Int) ≠ p ∨ 16384 < nw ∨ (nb:Int) ≠ cl then (9:Int) else if need < 0 then 11 else 0)=9) ∨
    (decide ((16384:Int) < (nw:Int))=false∧((((nb:Int) != cl)=true∧(if (nw:Int) ≠ p ∨ 16384 < nw ∨ (nb:Int) ≠ cl then (9:Int) else if need < 0 then 11 else 0)=9) ∨
     (((nb:Int) != cl)=false∧((decide (need < 0)=true∧(if (nw:Int) ≠ p ∨ 16384 < nw ∨ (nb:Int) ≠ cl then (9:Int) else if need < 0 then 11 else 0)=11) ∨
      (decide (need < 0)=false∧(if (nw:Int) ≠ p ∨ 16384 < nw ∨ (nb:Int) ≠ cl then (9:Int) else if need < 0 then 11 else 0)=0))))))):=by
  by_cases d1:(nw:Int)=p
  ·right
   refine ⟨by simp;exact d1,?_⟩
   by_cases d2:16384 < nw
   ·left;exact ⟨by simp;omega,by rw [if_pos (.inr (.inl d2))]⟩
   ·right
    refine ⟨by simp;omega,?_⟩
    by_cases d3:(nb:Int)=cl
    ·right
     refine ⟨by simp;exact d3,?_⟩
     rw [if_neg (by omega)]
     by_cases d4:need < 0
     ·left;exact ⟨by simp;exact d4,by rw [if_pos d4]⟩
     ·right;exact ⟨by simp;omega,by rw [if_neg d4]⟩
    ·left;exact ⟨by simp;exact d3,by rw [if_pos (.inr (.inr d3))]⟩
  ·left;exact ⟨by simp;exact d1,by rw [if_pos (.inl d1)]⟩
 rcases t3 with ⟨t3,e⟩|⟨t3,⟨t4,e⟩|⟨t4,⟨t5,e⟩|⟨t5,⟨t6,e⟩|⟨t6,e⟩⟩⟩⟩
 all_goals
  have E:=zH e
  clear e
  refine wp_region_ext w3 (by kernel_rfl) (by kernel_rfl) (Below.refl _ _) ?_
  repeat (go_big_quiet_step ((exact E1.out _)))
  refine wpQuiet_nil ?_
  rintro _ ⟨⟨w4,hb⟩,rfl⟩
  clear cH cS
  have cH:=fun i=>(BH.out.fut hb).cell i
  have FR4:=zH (FR.out.fut hb)
  clear hb
  go_wp2_with fail
  go_ret
  exact ⟨ret_int (by rw [← HR.out,CC.out,E.out]),FR4.out.out⟩
structure Req where
 id:Int
 state:Int
 due:Int
 p:Pt
 a:Ans
structure ReqIn (r:Req):Prop where
 id:InK .i64 r.id
 state:InK .i64 r.state
 due:InK .i64 r.due
 p:PtIn r.p
 a:AnsIn r.a
def tReq:Ty Req:=tMap (fun (x:Int × Int × Int × Pt × Ans)=>⟨x.1,x.2.1,x.2.2.1,x.2.2.2.1,x.2.2.2.2⟩) (tPair tI (tPair tI (tPair tI (tPair tPoint tAns))))
def reqCells (r:Req) (A:Option Addr) (n c:Nat) (B:Option Addr) (m d:Nat) (L:Option Addr) (nl cl:Nat):Array Value :=
 #[.int .i64 r.id,.int .i64 r.state,.int .i64 r.due,.int .i64 r.p.model,.int .i64 r.p.block,.int .i64 r.p.spent,.int .i64 r.p.input.h,.int .i64 r.p.input.v,.int .i64 r.p.input.c,.slice A n c,.int .i64 r.p.value.h,.int .i64 r.p.value.v,.int .i64 r.p.value.c,.slice B m d,
  .int .i64 r.a.id,.int .i64 r.a.model,.int .i64 r.a.block,.int .i64 r.a.cls,.int .i64 r.a.margin,.slice L nl cl,.int .i64 r.a.spent,.int .i64 r.a.why,.int .i64 r.a.tick]
theorem req_open {w:World} {S:Nat → Prop} {cs:List Value} {r:Req} (h:tReq.rep w S cs r) :
  ∃ A n c B m d L nl cl,cs=(reqCells r A n c B m d L nl cl).toList∧ReqIn r∧Sl (tInt .i8) w S A n c r.p.input.data∧Sl (tInt .i8) w S B m d r.p.value.data∧Sl (tInt .i32) w S L nl cl r.a.logits:=by
 obtain ⟨⟨a,b,c,t,u⟩,rfl,_,_,rfl,⟨rfl,h1⟩,_,_,rfl,⟨rfl,h2⟩,_,_,rfl,⟨rfl,h3⟩,_,_,rfl,ht,hu⟩:=h
 obtain ⟨A,n,cap,B,m,d,rfl,h4,hs,hs'⟩:=point_open ht
 obtain ⟨L,nl,cl,rfl,h5,hl⟩:=ans_open hu
 exact ⟨A,n,cap,B,m,d,L,nl,cl,rfl,⟨h1,h2,h3,h4,h5⟩,hs,hs',hl⟩
def noAns:Ans:=⟨0,0,0,0,0,[],0,0,0⟩
def noReq:Req:=⟨0,0,0,noPoint,noAns⟩
structure StoreIn (w:World) (g b:Nat) (m:Int) (rs:List Req) (D:DataW (Array Value)) (vs:List (Array Value)):Prop where
 blk:Blk w g 158 #[.map (some b),.int .i64 m]
 own:w.ownsMap Tryz.prog 3 reqR b vs.length D
 holds:Holds D vs
 ne:g ≠ b
 len:vs.length=rs.length
 at_:∀ (i:Nat) (r:Req),rs[i]?=some r → ∃ cs:Array Value,vs[i]?=some cs∧tReq.rep w (fun x=>x < w.heap.size∧x ≠ b) cs.toList r
structure StoreAt (w:World) (g b:Nat) (m:Int) (rs:List Req):Prop where
 out:∃ (D:DataW (Array Value)) (vs:List (Array Value)),StoreIn w g b m rs D vs
theorem StoreAt.later {w w':World} {g b:Nat} {m:Int} {rs:List Req} (h:StoreAt w g b m rs) (hb:Below w.heap.size w w'):StoreAt w' g b m rs:=by
 obtain ⟨D,vs,⟨h1,h2,h3,h4,h5,h6⟩⟩:=h.out
 refine ⟨D,vs,⟨h1.later hb,?_,h3,h4,h5,fun i r hi=>?_⟩⟩
 ·exact h2.kept (row:=none) ⟨hb.os,hb.tape,hb.output,hb.size,fun k hk _=>hb.block k hk⟩ (by simp)
 ·obtain ⟨cs,hc,hr⟩:=h6 i r hi
  exact ⟨cs,hc,tReq.more (tReq.keep hr fun x hx=>hb.block x hx.1) fun x hx=>⟨Nat.lt_of_lt_of_le hx.1 hb.size,hx.2⟩⟩
theorem StoreAt.map {w:World} {g b:Nat} {m:Int} {rs:List Req} (h:StoreAt w g b m rs):∃ es clock,w.heap[b]?=some (.map es clock)∧es.size=rs.length:=by
 obtain ⟨D,vs,⟨h1,h2,h3,h4,h5,h6⟩⟩:=h.out
 have hs:=h3.size
 obtain ⟨es,clock,hb,F,hn,rfl⟩:=h2
 refine ⟨es,clock,hb,?_⟩
 have e1:=length_read (P:=Tryz.prog) (k:=3) (R0:=reqR) es
 rw [← h5,← hs]
 exact e1.symm
theorem StoreAt.len {w:World} {g b:Nat} {m:Int} {rs:List Req} (h:StoreAt w g b m rs) (ty:TypeId):(Builtin.len_ #[156] ty #[.map (some b)]).run Tryz.prog w=.ok (.int .i64 rs.length) w:=by
 obtain ⟨D,vs,⟨h1,h2,h3,h4,h5,h6⟩⟩:=h.out
 rw [← h5,← h3.size]
 exact h2.len Tryz.underlying156 ty
theorem StoreAt.cells {w:World} {g b:Nat} {m:Int} {rs:List Req} (h:StoreAt w g b m rs):w.cell? ⟨g,0,none⟩=some (.map (some b))∧w.cell? ⟨g,1,none⟩=some (.int .i64 m):=by
 obtain ⟨D,vs,⟨h1,_⟩⟩:=h.out
 exact ⟨h1.cell 0,h1.cell 1⟩
theorem storeNew_good (m:Int) (w:World) (h1:1≤m) (h2:m≤4096) :
  Calls Tryz.prog 35 #[.int .i64 m] w fun e w'=>e=.returned (.tuple #[.pointer (some ⟨w.heap.size+1,0,none⟩),.int .i64 0])∧StoreAt w' (w.heap.size+1) w.heap.size m []∧Below w.heap.size w w':=by
 have t1:decide (m < 1)=false:=by simp;omega
 have t2:decide (4096 < m)=false:=by simp;omega
 have hmm:=@run_makeMap Tryz.prog
 go_enter Tryz.func35,Tryz.ntmps35
 go_wp2_with fail
 go_ret2
 refine ⟨rfl,⟨.map [],[],⟨Blk.now _ _ _ _ (by simp),?_,Holds.empty,by simp,rfl,by simp⟩⟩,((Below.refl _ _).alloc (Nat.le_refl _) _).alloc (by simp) _⟩
 exact (World.ownsMap_made w Tryz.prog 3 reqR).alloc _
end Go.Proofs.YtppcjcigekoipaaGreat
