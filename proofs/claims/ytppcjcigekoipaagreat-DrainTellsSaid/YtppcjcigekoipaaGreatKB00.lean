/-
  The greatest of all costs (layer 31: cost.Ends).
-/
import Derived.Test.YtppcjcigekoipaaGreatJ48
set_option linter.unusedVariables false
set_option linter.unusedSimpArgs false
namespace Go.Proofs.YtppcjcigekoipaaGreat
open Go.RowKit Go.ChangeShapes Go.WideShapes
set_option maxRecDepth 100000
set_option maxHeartbeats 8000000
def RetE (x:Int) (w:World) (e:Ending) (w':World):Prop:=(∃ a s,e=.returned (.tuple (sN a x s)))∧Below w.heap.size w w'
theorem ends_any (A:Option Addr) (n cap:Nat) (tb:List (List Int)) (w:World) (ht:Sl tRow w (blo w.heap.size) A n cap tb) (hn:n≤100) (hr:∀ r ∈ tb,r.length≤100) (hc:∀ r ∈ tb,∀ c ∈ r,1≤c) :
  Calls Tryz.prog 25 #[.slice A n cap] w (RetE (mostL tb.flatten) w):=by
 have HT:=zH (Old.now ht)
 have TN:=zH ht.n_eq
 have HR:=zH hr
 have HC:=zH hc
 have H:=zH (Far.refl w)
 unfold RetE
 clear ht hr hc
 go_enter Tryz.func25,Tryz.ntmps25
 go_wp2_with (refine sF 126 (.tmp 5) (.tmp 11) #[.int .i64 0,.int .i64 0] ?_;intro w1 b1 k1;have H1:=zN k1 H b1;clear b1)
 have z1:=k1.size
 clear H k1
 go_loopw [4,6,14] (fun al fi i wr=>∃ (k:Nat) (a s:Int) (f:Bool),k≤n∧i=.int .i64 k∧al=.int .i64 s∧fi=.bool f∧(f=true → (tb.take k).flatten=[])∧(Far w wr∧Blk wr w.heap.size 126 #[.int .i64 a,.int .i64 (mostL (tb.take k).flatten)])) (fun _ _ i _=>n - (intOf i).toNat)
 case atStart=>exact ⟨0,0,0,true,Nat.zero_le _,rfl,rfl,rfl,fun _=>rfl,H1.out⟩
 case round =>
  clear H1
  obtain ⟨k,a,s,f,hk,rfl,rfl,rfl,hf,hH⟩:=hrel
  obtain ⟨wo,hwo⟩:∃ x,x=wr:=⟨_,rfl⟩
  subst hwo
  have H:=zH hH
  have FF:=zH hf
  clear hH hf
  by_cases hlt:k < n
  ·have p1:(k:Int) < (n:Int):=by omega
   have gk:IntKind.i64.wrap ((k:Int)+1)=((k+1:Nat):Int):=(IntWalk.i64_in _ (by omega)).trans (by simp)
   obtain ⟨r,gr,off,v,hx,hA,hgr,-,hr,hc⟩:=(HT.out.fut H.out.1.out).out.cell1 rfl k hlt
   obtain ⟨A',c',e,hs⟩:=tSlice_iff.1 hr
   simp only [List.cons.injEq,and_true] at e
   subst e hA
   have r6:=HR.out r (List.mem_of_getElem? hx)
   have RC:=zH (HC.out r (List.mem_of_getElem? hx))
   have CR:=zH (costsTo_row hx)
   have CN:=zH (fun j c h=>costsTo_next (tb:=tb) (k:=k) (row:=r) (j:=j) (c:=c) h)
   have C0:=costsTo_zero (tb:=tb) (k:=k) (row:=r)
   rw [← C0] at FF H
   have HX:=zH (hs.keep (w':=w) fun x hx=>(H.out.1.out.block x hx).symm)
   clear hr hs hgr hx C0
   go_wp2_with fail
   go_loopw [4,6,20] (fun al fi i wr=>∃ (j:Nat) (a s:Int) (f:Bool),j≤r.length∧i=.int .i64 j∧al=.int .i64 s∧fi=.bool f∧(f=true → costsTo tb k r j=[])∧(Far w wr∧Blk wr w.heap.size 126 #[.int .i64 a,.int .i64 (mostL (costsTo tb k r j))])∧Below w.heap.size w wr) (fun _ _ i _=>r.length - (intOf i).toNat)
   case atStart=>exact ⟨0,a,s,f,Nat.zero_le _,rfl,rfl,rfl,FF.out,H.out,H.out.1.out⟩
   case round =>
    clear H FF hc
    obtain ⟨j,a,s,f,hj,rfl,rfl,rfl,hf,hH,hb⟩:=hrel
    obtain ⟨wi,hwi⟩:∃ x,x=wr:=⟨_,rfl⟩
    subst hwi
    have H:=zH hH
    have FF:=zH hf
    have GW:=zH hb
    clear hH hf hb
    by_cases hlj:j < r.length
    ·have p2:(j:Int) < (r.length:Int):=by omega
     have gj:IntKind.i64.wrap ((j:Int)+1)=((j+1:Nat):Int):=(IntWalk.i64_in _ (by omega)).trans (by simp)
     obtain ⟨b0,o0,rfl,-,-,ce,-⟩:=(HX.out.below H.out.1.out (fun x hx=>hx)).int_at j hlj
     have hrj:r[j]?=some (r.getD j 0):=by rw [List.getD_eq_getElem?_getD,List.getElem?_eq_getElem hlj];rfl
     obtain ⟨c,hcj⟩:∃ c,r.getD j 0=c:=⟨_,rfl⟩
     rw [hcj] at ce hrj
     have c1:=RC.out c (List.mem_of_getElem? hrj)
     have NX:=zH (show mostL (costsTo tb k r (j+1))=max (mostL (costsTo tb k r j)) c by rw [CN.out j c hrj,mostL_snoc])
     obtain ⟨s2,gs⟩:∃ s2,IntKind.i64.wrap (s+c)=s2:=⟨_,rfl⟩
     clear hrj hcj
     cases f with
     | true =>
      have M0:=zH (show mostL (costsTo tb k r (j+1))=c by rw [NX.out,FF.out rfl];show max 0 c=c;omega)
      clear NX FF
      go_wp2_with (first
       | (refine sB 126 (.tmp 5) (.tmp 27) w.heap.size #[.int .i64 c,.int .i64 c] H.out.2 ?_;intro w5 b5 g5;replace H:=zS g5 b5 H;clear b5;have d0:=H.out.2.cell 0;have d1:=H.out.2.cell 1)
       | (refine sB 126 (.tmp 5) (.tmp 36) w.heap.size #[.int .i64 c,.int .i64 c] H.out.2 ?_;intro w6 b6 g6;replace H:=zS g6 b6 H;clear b6))
      exact ⟨⟨j+1,c,s2,false,by omega,by go_num,rfl,rfl,(fun h=>by cases h),by rw [M0.out];exact H.out,H.out.1.out⟩,by simp [intOf];omega⟩
     | false =>
      obtain ⟨M,hM⟩:∃ M,mostL (costsTo tb k r j)=M:=⟨_,rfl⟩
      rw [hM] at NX H
      obtain ⟨a2,ga⟩:∃ x,(if c < a then c else a)=x:=⟨_,rfl⟩
      obtain ⟨M2,gM⟩:∃ x,(if M < c then c else M)=x:=⟨_,rfl⟩
      have M0:=zH (show mostL (costsTo tb k r (j+1))=M2 by rw [NX.out,← gM];split <;> omega)
      have d0:=H.out.2.cell 0
      have d1:=H.out.2.cell 1
      clear NX FF hM
      go_wp2_with (first
       | (refine sB 126 (.tmp 5) (.tmp 36) w.heap.size #[.int .i64 a2,.int .i64 M2] H.out.2 ?_;intro w6 b6 g6;replace H:=zS g6 b6 H;clear b6 d0 d1))
      exact ⟨⟨j+1,a2,s2,false,by omega,by go_num,rfl,rfl,(fun h=>by cases h),by rw [M0.out];exact H.out,H.out.1.out⟩,by simp [intOf];omega⟩
    ·obtain hjn:j=r.length:=by omega
     have p2:¬ (j:Int) < (r.length:Int):=by omega
     go_wp2_with fail
     subst hjn
     exact ⟨⟨k+1,a,s,f,by omega,by go_num,rfl,rfl,by rw [CR.out];exact FF.out,by rw [CR.out];exact H.out⟩,by simp [intOf];omega⟩
  ·obtain rfl:n=k:=by omega
   have p1:¬ (n:Int) < (n:Int):=by omega
   have TT:=zH (show tb.take n=tb from List.take_of_length_le (by rw [TN.out];exact Nat.le_refl _))
   rw [TT.out] at H
   have c0:∀ z:Ext wo,z.1.cell? ⟨w.heap.size,0,none⟩=some (.int .i64 a):=fun z=>(H.out.2.ext z).cell 0
   have c1:∀ z:Ext wo,z.1.cell? ⟨w.heap.size,1,none⟩=some (.int .i64 (mostL tb.flatten)):=fun z=>(H.out.2.ext z).cell 1
   go_upto_region 15 with fail
   refine wp_region_ext wo (by kernel_rfl) (by kernel_rfl) (Below.refl _ _) ?_
   repeat (go_big_quiet_step (fail))
   refine wpQuiet_nil ?_
   rintro wa ⟨⟨_,hb⟩,rfl⟩
   replace H:=zF hb H
   clear hb c0 c1
   go_wp2_with fail
   go_ret3
   exact ⟨⟨a,s,rfl⟩,H.out.1.out⟩
end Go.Proofs.YtppcjcigekoipaaGreat
