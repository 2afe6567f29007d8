/-
  Room around a tensor (layer 9): pad.may, the document's May, Pixel, of a tensor that is right.
  Room around a tensor (layer 9): the document's Move, by the same number of rows and columns.
-/
import Derived.Test.YtjkmjpjknmghlaaGreatJ31
set_option linter.unusedVariables false
set_option linter.unusedSimpArgs false
namespace Go.Proofs.YtjkmjpjknmghlaaGreat
open Go.RowKit Go.ChangeShapes Go.WideShapes Fx
set_option maxRecDepth 100000
set_option maxHeartbeats 4000000
theorem padMay_any (t:Tensor) (A:Option Addr) (n cap:Nat) (p:Int) (w:World) (ht:TensorIn t) (ha:Sl (tInt .i8) w (blo w.heap.size) A n cap t.data) (c1:t.ok=true) :
  Calls Tryz.prog 87 #[.agg (tN t.h t.v t.c A n cap),.int .i64 p] w fun e w'=>e=.returned (.int .i64 (if p < 0 ∨ 4 < p then 2 else 0))∧Below w.heap.size w w':=by
 have c1':decide (0 < elems t.h t.v t.c∧elems t.h t.v t.c=n)=true:=by rw [← ha.n_eq];simpa [Tensor.ok] using c1
 have RI:=zH (fun w=>tensorRight_any t.h t.v t.c A n cap w ht.h ht.v ht.c (Nat.le_trans ha.cap_le ha.max_le))
 rw [c1'] at RI
 have FR:=zH (Far.refl w)
 obtain ⟨w1,hw_w1,BA,k_w1⟩:=nB w (tN t.h t.v t.c A n cap) 27
 replace FR:=zH (FR.out.fut k_w1)
 clear k_w1
 clear ht ha c1 c1'
 by_cases a1:p < 0
 ·rw [if_pos (.inl a1)]
  go_enter Tryz.func87,Tryz.ntmps87
  go_wp2_with (first|(refine lB 27 (.tmp 2) w.heap.size BA.out Tryz.underlying27 ?_)|(go_at_call 13;refine (RI.out _).mono ?_;rintro e w4 ⟨rfl,hb⟩;replace FR:=zH (FR.out.fut hb);clear hb hw_w1))
  go_ret
  exact ⟨rfl,FR.out.out⟩
 ·by_cases a2:4 < p
  ·rw [if_pos (.inr a2)]
   go_enter Tryz.func87,Tryz.ntmps87
   go_wp2_with (first|(refine lB 27 (.tmp 2) w.heap.size BA.out Tryz.underlying27 ?_)|(go_at_call 13;refine (RI.out _).mono ?_;rintro e w4 ⟨rfl,hb⟩;replace FR:=zH (FR.out.fut hb);clear hb hw_w1))
   go_ret
   exact ⟨rfl,FR.out.out⟩
  ·rw [if_neg (by omega)]
   go_enter Tryz.func87,Tryz.ntmps87
   go_wp2_with (first|(refine lB 27 (.tmp 2) w.heap.size BA.out Tryz.underlying27 ?_)|(go_at_call 13;refine (RI.out _).mono ?_;rintro e w4 ⟨rfl,hb⟩;replace FR:=zH (FR.out.fut hb);clear hb hw_w1))
   go_ret
   exact ⟨rfl,FR.out.out⟩
theorem rpadMay_any (t:Tensor) (A:Option Addr) (n cap:Nat) (p:Int) (w:World) (ht:TensorIn t) (ha:Sl (tInt .i8) w (blo w.heap.size) A n cap t.data) (c1:t.ok=true) :
  Calls Tryz.prog 36 #[.agg (tN t.h t.v t.c A n cap),.int .i64 p] w fun e w'=>e=.returned (.int .i64 (if p < 0 ∨ 4 < p then 2 else 0))∧Below w.heap.size w w':=by
 have c1':decide (0 < elems t.h t.v t.c∧elems t.h t.v t.c=n)=true:=by rw [← ha.n_eq];simpa [Tensor.ok] using c1
 have RI:=zH (fun w=>rtensorRight_any t.h t.v t.c A n cap w ht.h ht.v ht.c (Nat.le_trans ha.cap_le ha.max_le))
 rw [c1'] at RI
 have FR:=zH (Far.refl w)
 obtain ⟨w1,hw_w1,BA,k_w1⟩:=nB w (tN t.h t.v t.c A n cap) 27
 replace FR:=zH (FR.out.fut k_w1)
 clear k_w1
 clear ht ha c1 c1'
 by_cases a1:p < 0
 ·rw [if_pos (.inl a1)]
  go_enter Tryz.func36,Tryz.ntmps36
  go_wp2_with (first|(refine lB 27 (.tmp 2) w.heap.size BA.out Tryz.underlying27 ?_)|(go_at_call 17;refine (RI.out _).mono ?_;rintro e w4 ⟨rfl,hb⟩;replace FR:=zH (FR.out.fut hb);clear hb hw_w1))
  go_ret
  exact ⟨rfl,FR.out.out⟩
 ·by_cases a2:4 < p
  ·rw [if_pos (.inr a2)]
   go_enter Tryz.func36,Tryz.ntmps36
   go_wp2_with (first|(refine lB 27 (.tmp 2) w.heap.size BA.out Tryz.underlying27 ?_)|(go_at_call 17;refine (RI.out _).mono ?_;rintro e w4 ⟨rfl,hb⟩;replace FR:=zH (FR.out.fut hb);clear hb hw_w1))
   go_ret
   exact ⟨rfl,FR.out.out⟩
  ·rw [if_neg (by omega)]
   go_enter Tryz.func36,Tryz.ntmps36
   go_wp2_with (first|(refine lB 27 (.tmp 2) w.heap.size BA.out Tryz.underlying27 ?_)|(go_at_call 17;refine (RI.out _).mono ?_;rintro e w4 ⟨rfl,hb⟩;replace FR:=zH (FR.out.fut hb);clear hb hw_w1))
   go_ret
   exact ⟨rfl,FR.out.out⟩
theorem pixel_any (H V C:Nat) (A:Option Addr) (n cap:Nat) (l:List Int) (y x:Int) (c:Nat) (z:Int) (w:World) (ha:Sl (tInt .i8) w (blo w.heap.size) A n cap l) (hn:n=H*V*C) (hn2:n≤1024) (hH:H≤16) (hV:V≤16) (hC:C≤1024) (hc:c < C) :
  Calls Tryz.prog 97 #[.agg (tN H V C A n cap),.int .i64 y,.int .i64 x,.int .i64 c,.int .i8 z] w fun e w'=>e=.returned (.int .i8 (if inside H V y x then l.getD (placeV V C y x c) 0 else z))∧Below w.heap.size w w':=by
 have HA:=zH ha
 have HN:=zH hn
 have FR:=zH (Far.refl w)
 obtain ⟨w1,hw_w1,BA,k_w1⟩:=nB w (tN H V C A n cap) 27
 replace FR:=zH (FR.out.fut k_w1)
 clear k_w1
 have d0:=BA.out.cell 0
 have d1:=BA.out.cell 1
 clear ha hn
 by_cases a1:0≤y
 ·by_cases a2:y < (H:Int)
  ·by_cases a3:0≤x
   ·by_cases a4:x < (V:Int)
    ·rw [if_pos (show inside H V y x from ⟨a1,a2,a3,a4⟩)]
     obtain ⟨yn,rfl⟩:∃ m:Nat,y=m:=⟨y.toNat,by omega⟩
     obtain ⟨xn,rfl⟩:∃ m:Nat,x=m:=⟨x.toNat,by omega⟩
     unfold placeV
     simp only [Int.toNat_natCast]
     have GE:=zH (fun wq (h:Sl (tInt .i8) wq (blo wq.heap.size) A n cap l)=>rget_any H V C A n cap l yn xn c wq h HN.out hn2 hC (by omega) (by omega) hc)
     have t1:¬ (H:Int)≤(yn:Int):=by omega
     have t2:¬ (V:Int)≤(xn:Int):=by omega
     have t3:¬ H≤yn:=by omega
     have t4:¬ V≤xn:=by omega
     go_enter Tryz.func97,Tryz.ntmps97
     go_wp2_with (first|(refine lB 27 (.tmp 5) w.heap.size BA.out Tryz.underlying27 ?_)|(go_at_call 92;refine (GE.out _ ((Old.now HA.out).fut FR.out.out).all).mono ?_;rintro e w4 ⟨rfl,hb⟩;replace FR:=zH (FR.out.fut hb);clear hb))
     go_ret
     exact ⟨rfl,FR.out.out⟩
    ·have ni:¬ inside H V y x:=fun h=>a4 h.2.2.2
     rw [if_neg ni]
     have t2:(V:Int)≤x:=by omega
     clear ni
     go_enter Tryz.func97,Tryz.ntmps97
     go_wp2_with fail
     go_ret
     exact ⟨rfl,FR.out.out⟩
   ·have ni:¬ inside H V y x:=fun h=>a3 h.2.2.1
    rw [if_neg ni]
    have t2:x < 0:=by omega
    clear ni
    go_enter Tryz.func97,Tryz.ntmps97
    go_wp2_with fail
    go_ret
    exact ⟨rfl,FR.out.out⟩
  ·have ni:¬ inside H V y x:=fun h=>a2 h.2.1
   rw [if_neg ni]
   have t2:(H:Int)≤y:=by omega
   clear ni
   go_enter Tryz.func97,Tryz.ntmps97
   go_wp2_with fail
   go_ret
   exact ⟨rfl,FR.out.out⟩
 ·have ni:¬ inside H V y x:=fun h=>a1 h.1
  rw [if_neg ni]
  have t2:y < 0:=by omega
  clear ni
  go_enter Tryz.func97,Tryz.ntmps97
  go_wp2_with fail
  go_ret
  exact ⟨rfl,FR.out.out⟩
end Go.Proofs.YtjkmjpjknmghlaaGreat
namespace Go.Proofs.YtjkmjpjknmghlaaGreat
open Go.RowKit Go.ChangeShapes Go.WideShapes Fx
set_option maxRecDepth 100000
set_option maxHeartbeats 8000000
def pixV (H V C:Nat) (l:List Int) (y x:Int) (c:Nat) (z:Int):Int:=if inside H V y x then l.getD (placeV V C y x c) 0 else z
def padF (H V C:Nat) (l:List Int) (p:Nat) (z:Int) (Wo i:Nat):Int:=pixV H V C l ((i / C / Wo:Nat) - (p:Int)) ((i / C % Wo:Nat) - (p:Int)) (i % C) z
theorem pixV_in {H V C:Nat} {l:List Int} {y x:Int} {c:Nat} {z:Int} (hl:∀ i,InK .i8 (l.getD i 0)) (hz:InK .i8 z):InK .i8 (pixV H V C l y x c z):=by
 unfold pixV
 split
 ·exact hl _
 ·exact hz
theorem rmove_any (H V C Ho Wo p:Nat) (A:Option Addr) (n cap:Nat) (l:List Int) (z:Int) (N:Nat) (w:World) (ha:Sl (tInt .i8) w (blo w.heap.size) A n cap l) (hn:n=H*V*C) (hn2:n≤1024) (hH:H≤16) (hV:V≤16) (hC:1≤C∧C≤1024) (hHo:Ho≤16) (hWo:1≤Wo∧Wo≤16) (hp:p≤4) (hz:InK .i8 z) (hN:Ho*Wo*C=N) (hN2:N≤1024) :
  Calls Tryz.prog 63 #[.agg (sN Ho Wo C),.agg (tN H V C A n cap),.int .i64 p,.int .i64 p,.int .i8 z] w fun e w'=>∃ Q c,e=.returned (.agg (tN Ho Wo C Q N c))∧Sl (tInt .i8) w' (bin w.heap.size w'.heap.size) Q N c ((List.range N).map (padF H V C l p z Wo))∧Below w.heap.size w w':=by
 have HA:=zH ha
 have HZ:=zH hz
 have NE:=zH hN
 have PX:=zH (fun (y x:Int) (c:Nat) (hc:c < C) wq (h:Sl (tInt .i8) wq (blo wq.heap.size) A n cap l)=>pixel_any H V C A n cap l y x c z wq h hn hn2 hH hV hC.2 hc)
 have FR:=zH (Far.refl w)
 obtain ⟨w1,hw_w1,BS,k_w1⟩:=nB w (sN Ho Wo C) 24
 replace FR:=zH (FR.out.fut k_w1)
 clear k_w1
 obtain ⟨w2,hw_w2,BT,k_w2⟩:=nB w1 (tN H V C A n cap) 27
 replace FR:=zH (FR.out.fut k_w2)
 replace BS:=zH (BS.out.fut k_w2)
 clear k_w2
 obtain ⟨w3,hw_w3,BC,k_w3⟩:=nB w2 (tN 0 0 0 none 0 0) 27
 replace FR:=zH (FR.out.fut k_w3)
 replace BS:=zH (BS.out.fut k_w3)
 replace BT:=zH (BT.out.fut k_w3)
 clear k_w3
 have l1:w.heap.size < w1.heap.size:=by rw [← hw_w1];simp
 have l2:w1.heap.size < w2.heap.size:=by rw [← hw_w2];simp
 have l3:w2.heap.size < w3.heap.size:=by rw [← hw_w3];simp
 have BS3:=zH BS.out
 obtain ⟨w4,hw_w4,BG,k_w4⟩:=nB w3 (tN 0 0 0 none 0 0) 27
 replace FR:=zH (FR.out.fut k_w4)
 replace BS:=zH (BS.out.fut k_w4)
 replace BT:=zH (BT.out.fut k_w4)
 replace BC:=zH (BC.out.fut k_w4)
 clear k_w4
 have l4:w4.heap.size=w3.heap.size+1:=by rw [← hw_w4];simp
 have ub1:(Ho:Int)≤16:=by omega
 have ub2:(Wo:Int)≤16:=by omega
 have ub3:(C:Int)≤1024:=by omega
 clear ha hz hn hN
 go_enter Tryz.func63,Tryz.ntmps63
 go_wp2_with (first|(refine lB 24 (.tmp 5) w.heap.size BS3.out Tryz.underlying24 ?_)|(refine sB 27 (.tmp 11) (.tmp 16) w3.heap.size (tN Ho Wo C none 0 0) BG.out ?_;intro w5 B5 g5))
 clear hw_w1 hw_w2 hw_w3 hw_w4 BS3
 replace FR:=zH (FR.out.away g5 (by omega))
 replace BS:=zH (BS.out.away g5 (.inl (by omega)))
 replace BT:=zH (BT.out.away g5 (.inl (by omega)))
 replace BC:=zH (BC.out.away g5 (.inl (by omega)))
 replace BG:=zH B5
 clear B5 g5
 have ON:=zH (show Own (tInt .i8) w5 (fun _=>False) w4.heap.size 39 (.slice none 0 0) ((0*Wo+0)*C+0) ((List.range ((0*Wo+0)*C+0)).map (padF H V C l p z Wo)) by rw [Nat.zero_mul,Nat.zero_add,Nat.zero_mul];exact Own.nil _ _ _ _ _)
 go_loopw [12] (fun ii wr=>∃ h:Nat,h≤Ho∧ii=.int .i64 h∧Far w wr∧Blk wr w.heap.size 24 (sN Ho Wo C)∧Blk wr w1.heap.size 27 (tN H V C A n cap)∧Blk wr w2.heap.size 27 (tN 0 0 0 none 0 0)∧∃ u,Blk wr w3.heap.size 27 #[.int .i64 Ho,.int .i64 Wo,.int .i64 C,u]∧Own (tInt .i8) wr (fun _=>False) w4.heap.size 39 u ((h*Wo+0)*C+0) ((List.range ((h*Wo+0)*C+0)).map (padF H V C l p z Wo))) (fun ii _=>Ho - (intOf ii).toNat)
 case atStart=>exact ⟨0,Nat.zero_le _,rfl,FR.out,BS.out,BT.out,BC.out,_,BG.out,ON.out⟩
 case round =>
  obtain ⟨h,hh,rfl,f0,f1,f2,f3,u,f4,f5⟩:=hrel
  clear FR BS BT BC BG ON
  have FR:=zH f0
  have BS:=zH f1
  have BT:=zH f2
  have BC:=zH f3
  have BG:=zH f4
  have ON:=zH f5
  clear f0 f1 f2 f3 f4 f5
  have d0:=BS.out.cell 0
  by_cases hlt:h < Ho
  ·have p1:(h:Int) < (Ho:Int):=by omega
   go_wp2_with fail
   clear d0
   go_loopw [13] (fun ii wr=>∃ x:Nat,x≤Wo∧ii=.int .i64 x∧Far w wr∧Blk wr w.heap.size 24 (sN Ho Wo C)∧Blk wr w1.heap.size 27 (tN H V C A n cap)∧Blk wr w2.heap.size 27 (tN 0 0 0 none 0 0)∧∃ u,Blk wr w3.heap.size 27 #[.int .i64 Ho,.int .i64 Wo,.int .i64 C,u]∧Own (tInt .i8) wr (fun _=>False) w4.heap.size 39 u ((h*Wo+x)*C+0) ((List.range ((h*Wo+x)*C+0)).map (padF H V C l p z Wo))) (fun ii _=>Wo - (intOf ii).toNat)
   case atStart=>exact ⟨0,Nat.zero_le _,rfl,FR.out,BS.out,BT.out,BC.out,_,BG.out,ON.out⟩
   case round =>
    obtain ⟨x,hx,rfl,f0,f1,f2,f3,u,f4,f5⟩:=hrel
    clear FR BS BT BC BG ON
    have FR:=zH f0
    have BS:=zH f1
    have BT:=zH f2
    have BC:=zH f3
    have BG:=zH f4
    have ON:=zH f5
    clear f0 f1 f2 f3 f4 f5
    have d1:=BS.out.cell 1
    by_cases hlx:x < Wo
    ·have p2:(x:Int) < (Wo:Int):=by omega
     go_wp2_with fail
     clear d1
     go_loopw [14] (fun ii wr=>∃ o:Nat,o≤C∧ii=.int .i64 o∧Far w wr∧Blk wr w.heap.size 24 (sN Ho Wo C)∧Blk wr w1.heap.size 27 (tN H V C A n cap)∧Blk wr w2.heap.size 27 (tN 0 0 0 none 0 0)∧∃ u,Blk wr w3.heap.size 27 #[.int .i64 Ho,.int .i64 Wo,.int .i64 C,u]∧Own (tInt .i8) wr (fun _=>False) w4.heap.size 39 u ((h*Wo+x)*C+o) ((List.range ((h*Wo+x)*C+o)).map (padF H V C l p z Wo))) (fun ii _=>C - (intOf ii).toNat)
     case atStart=>exact ⟨0,Nat.zero_le _,rfl,FR.out,BS.out,BT.out,BC.out,_,BG.out,ON.out⟩
     case round =>
      obtain ⟨o,ho,rfl,f0,f1,f2,f3,u,f4,f5⟩:=hrel
      clear FR BS BT BC BG ON
      have FR:=zH f0
      have BS:=zH f1
      have BT:=zH f2
      have BC:=zH f3
      have BG:=zH f4
      have ON:=zH f5
      clear f0 f1 f2 f3 f4 f5
      have d2:=BS.out.cell 2
      by_cases hlo:o < C
      ·have p3:(o:Int) < (C:Int):=by omega
       go_wp2_with fail
       clear d2
       have hlk:(h*Wo+x)*C+o < N:=by rw [← NE.out];exact idx_lt h x o Ho Wo C hlt hlx hlo
       have FK:=zH (show padF H V C l p z Wo ((h*Wo+x)*C+o)=pixV H V C l ((h:Int) - (p:Int)) ((x:Int) - (p:Int)) o z by
        obtain ⟨n1,n2,n3⟩:=nest_div h x Wo C o hlx hlo
        unfold padF
        rw [n1,n2,n3])
       have CALL:=zH (PX.out ((h:Int) - (p:Int)) ((x:Int) - (p:Int)) o hlo)
       obtain ⟨res,hres⟩:∃ m,pixV H V C l ((h:Int) - (p:Int)) ((x:Int) - (p:Int)) o z=m:=⟨_,rfl⟩
       have CALL:=zH (show ∀ wq (hs:Sl (tInt .i8) wq (blo wq.heap.size) A n cap l),Calls Tryz.prog 97 #[.agg (tN H V C A n cap),.int .i64 ((h:Int) - (p:Int)),.int .i64 ((x:Int) - (p:Int)),.int .i64 o,.int .i8 z] wq fun e w'=>e=.returned (.int .i8 res)∧Below wq.heap.size wq w' from fun wq hs=>by rw [← hres];exact CALL.out wq hs)
       have RE:=zH (show InK .i8 res by rw [← hres];exact pixV_in (fun i=>HA.out.allK i) HZ.out)
       rw [hres] at FK
       obtain ⟨yy,hyy⟩:∃ m:Int,(h:Int) - (p:Int)=m:=⟨_,rfl⟩
       obtain ⟨xx,hxx⟩:∃ m:Int,(x:Int) - (p:Int)=m:=⟨_,rfl⟩
       rw [hyy,hxx] at CALL
       have e1:IntKind.i64.wrap ((h:Int) - (p:Int))=yy:=by rw [hyy];exact IntWalk.i64_in _ (by omega)
       have e2:IntKind.i64.wrap ((x:Int) - (p:Int))=xx:=by rw [hxx];exact IntWalk.i64_in _ (by omega)
       have fd:Below w.heap.size w wr.drew:=FR.out.out.drew
       obtain ⟨k,hk⟩:∃ m,(h*Wo+x)*C+o=m:=⟨_,rfl⟩
       have HK:=zH hk
       rw [hk] at hlk FK ON
       have OD:=zH (show Own (tInt .i8) wr.drew (fun _=>False) w4.heap.size 39 u k ((List.range k).map (padF H V C l p z Wo)) from ON.out.heap rfl)
       have nu:=zH (show ∀ b,b < w4.heap.size → some b ≠ u.ownBlock from fun b hb e=>absurd (ON.out.lt b e.symm).1 (by omega))
       have z0:w4.heap.size≤wr.drew.heap.size:=by have:=BG.out.lt;show w4.heap.size≤wr.heap.size;omega
       clear hres hk hyy hxx
       refine wp_region_T (fun w'=>w'.cell? ⟨w3.heap.size,3,none⟩=some u∧Blk w' w1.heap.size 27 (tN H V C A n cap)∧Below w.heap.size w w') 14 (by kernel_rfl) ?_ (fun hS=>?_)
       ·exact ⟨BG.out.drew.cell 3,BT.out.drew,fd⟩
       refine kT 0 rfl hS ?_
       try simp only [pX]
       refine kT 1 rfl hS ?_
       try simp only [pX]
       refine tkT 2 rfl (yieldsIf_load_blk (by rfl) 27 (.tmp 6) rfl w1.heap.size 0 rfl _ _ (tN H V C A n cap) _ (fun w hs=>hs.2.1) Tryz.underlying27 rfl (by kernel_rfl) rfl) hS ?_
       try simp only [pX]
       refine kT 3 rfl hS ?_
       try simp only [pX]
       refine kT 4 rfl hS ?_
       try simp only [pX]
       refine kT 5 rfl hS ?_
       try simp only [pX]
       refine kT 6 rfl hS ?_
       try simp only [pX]
       refine kT 7 rfl hS ?_
       try simp only [pX]
       refine kT 8 rfl hS ?_
       try simp only [pX]
       refine kT 9 rfl hS ?_
       try simp only [pX]
       refine kT 10 rfl hS ?_
       try simp only [pX]
       refine wpAnyT_one (i:=11) (by kernel_rfl) rfl rfl (fun K hK=>?_)
       go_simp
       refine (CALL.out _ ((Old.now HA.out).fut fd).all).mono ?_;rintro e wa ⟨rfl,hb⟩;have OA:=zH (OD.out.below hb (Nat.le_refl _) (fun _ h=>h.elim));have za:w4.heap.size≤wa.heap.size:=Nat.le_trans z0 hb.size;have XX:=zH (And.intro (BC.out.drew.later hb) (And.intro (BS.out.drew.later hb) (BG.out.drew.later hb)));have YY:=zH (BT.out.drew.later hb);have FA:=zH (below_call fd hb fd.size)
       refine hK.out _ _ ?_ (fun hS=>?_)
       ·exact ⟨(by first|exact cell_later hb hS.1|exact Blk.later hS.1 hb),(by first|exact cell_later hb hS.2.1|exact Blk.later hS.2.1 hb),(by first|exact below_later hb hS.2.2|exact grown_below hS.2.2 hb)⟩
       clear hK K
       try simp only [pX]
       refine wpAnyT_one (i:=12) (by kernel_rfl) rfl rfl (fun K hK=>?_)
       go_simp
       have hb:Below wa.heap.size wa (wa.alloc (.cells #[.int .i8 res] 39)):=(Below.refl _ _).alloc (Nat.le_refl _) _
       refine hK.out _ _ ?_ (fun hS=>?_)
       ·exact ⟨(by first|exact cell_later hb hS.1|exact Blk.later hS.1 hb),(by first|exact cell_later hb hS.2.1|exact Blk.later hS.2.1 hb),(by first|exact below_later hb hS.2.2|exact grown_below hS.2.2 hb)⟩
       clear hK K
       try simp only [pX]
       refine wpAnyT_one (i:=13) (by kernel_rfl) rfl rfl (fun K hK=>?_)
       (rw [if_pos (by rfl)];refine oper_push (W:=wa) (cs:=#[.int .i8 res]) (E:=39) (t:=tInt .i8) (.tmp 36) (.tmp 47) rfl ei_b8 rfl OA.out 1 rfl res ⟨rfl,RE.out⟩ (by unfold maxLen;omega) (by omega) za (fun _ h=>h.elim) ?_;intro u' w7 own7 g7 at7;have B7:=zH (XX.out.2.2.rowR g7 (nu.out _ (by omega)));refine hK.out _ _ ⟨B7.out.cell 3,YY.out.rowR g7 (nu.out _ (by omega)),FA.out.grown g7 FA.out.size (fun j hj=>Nat.le_trans (by omega) (OA.out.lt j hj).1)⟩ (fun hS=>?_))
       clear hK K
       try simp only [pX]
       refine wpAnyT_tail _ _ rfl rfl (by kernel_rfl) ?_
       have FZ:=hS.2.2
       have XC:=zH (XX.out.1.rowR g7 (nu.out _ (by omega)))
       have XD:=zH (XX.out.2.1.rowR g7 (nu.out _ (by omega)))
       have XA:=zH hS.2.1
       have NU:=zH (show u'.ownBlock=none ∨ u'.ownBlock ≠ some w3.heap.size by
        cases hu:u'.ownBlock with
        | none=>exact .inl rfl
        | some m=>right;intro e;have:=(own7.lt m hu).1;have:=Option.some.inj e;omega)
       obtain ⟨A7,c7,rfl,-⟩:=own7.sl (S':=fun _=>True) (by decide) (fun _ _ _=>trivial) (fun _ _=>trivial)
       clear hS hb nu at7
       go_wp2_with (refine wpList_store_one rfl 25 (.tmp 49) (.tmp 48) rfl w3.heap.size 3 (.slice A7 (k+1) c7) rfl rfl rfl rfl _ #[.int .i64 Ho,.int .i64 Wo,.int .i64 C,u] (tN Ho Wo C A7 (k+1) c7) B7.out (by simp) (by kernel_rfl) rfl ?_;intro w8 B8 g8)
       have F8:=(show Far w w7 from ⟨FZ⟩).away g8 (by omega)
       have O8:=own7.flat g8 (by rcases NU.out with e|e;exact .inl e;exact .inr e) (fun _ h=>h)
       have e9:=range_snoc (padF H V C l p z Wo) k
       rw [FK.out] at e9
       rw [e9] at O8
       exact ⟨⟨o+1,by omega,by go_num,F8,XD.out.away g8 (.inl (by omega)),XA.out.away g8 (.inl (by omega)),XC.out.away g8 (.inl (by omega)),_,B8,by rw [show (h*Wo+x)*C+(o+1)=k+1 by rw [← HK.out];rfl];exact O8⟩,by simp [intOf];omega⟩
      ·obtain rfl:o=C:=by omega
       go_wp2_with fail
       exact ⟨⟨x+1,by omega,by go_num,FR.out,BS.out,BT.out,BC.out,_,BG.out,by rw [show (h*Wo+(x+1))*o+0=(h*Wo+x)*o+o by rw [Nat.add_zero,show h*Wo+(x+1)=(h*Wo+x)+1 from rfl,Nat.succ_mul]];exact ON.out⟩,by simp [intOf];omega⟩
    ·obtain rfl:x=Wo:=by omega
     go_wp2_with fail
     exact ⟨⟨h+1,by omega,by go_num,FR.out,BS.out,BT.out,BC.out,_,BG.out,by rw [show ((h+1)*x+0)*C+0=(h*x+x)*C+0 by rw [Nat.add_zero ((h+1)*x),Nat.succ_mul]];exact ON.out⟩,by simp [intOf];omega⟩
  ·obtain rfl:h=Ho:=by omega
   obtain ⟨A9,c9,rfl,-⟩:=ON.out.sl (S':=fun _=>True) (by decide) (fun _ _ _=>trivial) (fun _ _=>trivial)
   have en:(h*Wo+0)*C+0=N:=by rw [Nat.add_zero,Nat.add_zero];exact NE.out
   rw [en] at ON BG
   clear NE
   go_wp2_with (first|(refine lB 27 (.tmp 11) w3.heap.size BG.out Tryz.underlying27 ?_)|(refine sB 27 (.tmp 10) (.tmp 50) w2.heap.size (tN h Wo C A9 N c9) BC.out ?_;intro w9 B9 g9))
   have e2:=ON.out.flat g9 (by
    cases hu:(Value.slice A9 N c9).ownBlock with
    | none=>exact .inl rfl
    | some m=>right;intro e;have:=(ON.out.lt m hu).1;have:=Option.some.inj e;omega) (fun _ h=>h)
   refine ret_cell rfl B9 rfl Tryz.underlying27 (by kernel_rfl) rfl ?_
   obtain ⟨A2,c2,hv,s⟩:=e2.sl (S':=bin w.heap.size _) (by decide) (fun b h1 h2=>⟨by omega,h2⟩) (fun b h=>h.elim)
   injection hv with hv1 hv2 hv3
   subst hv1 hv3
   exact ⟨_,_,rfl,s,(FR.out.away g9 (by omega)).out⟩
end Go.Proofs.YtjkmjpjknmghlaaGreat
