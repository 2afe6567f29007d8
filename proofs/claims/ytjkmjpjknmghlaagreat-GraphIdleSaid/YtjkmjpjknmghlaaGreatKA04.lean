/-
  The value that goes out (layer 27: graph.Eval).
-/
import Derived.Test.YtjkmjpjknmghlaaGreatKA02
import Derived.Test.YtjkmjpjknmghlaaGreatKA03
set_option linter.unusedVariables false
set_option linter.unusedSimpArgs false
namespace Go.Proofs.YtjkmjpjknmghlaaGreat
open Go.RowKit Go.ChangeShapes Go.WideShapes
set_option maxRecDepth 100000
set_option maxHeartbeats 8000000
section
variable {P:Program} {fn:Func} {R:Ending → World → Prop} {a:Act} {w:World} {p u v:Nat} {ty:TypeId} {g:Nat} {e:TypeId} {cs:Array Value} {fs:Array Field}
theorem ret_cell_tmp3 (h:fn.results=#[.cell p ty,.tmp u,.tmp v]) (hb:Blk w g e cs) (hp:a.tmps.getD p undef=.pointer (some ⟨g,0,none⟩)) (hu:P.underlying ty=some (.struct fs)) (hi:(P.info? ty).map (·.size)=some cs.size) (hd:a.defers=[])
  (hR:R (.returned (.tuple #[.agg cs,a.tmps.getD u undef,a.tmps.getD v undef])) w):bodyPost P fn R .ret a w:=by
 refine bodyPost_ret (v:=.tuple #[.agg cs,a.tmps.getD u undef,a.tmps.getD v undef]) ?_ hd hR
 have hp':a.tmps[p]?.getD undef=.pointer (some ⟨g,0,none⟩):=by simpa using hp
 simp [results,h,Sem.run_bind,hp',run_asAddr_ptr,run_loadVar_row w g e ty cs (0,0) (.struct fs) hb.heap hu rfl hi,Result.andThen]
end
def RetEv (x:Tensor × Int × Int) (w:World) (e:Ending) (w':World):Prop :=
 ∃ A n cap,e=.returned (.tuple #[.agg #[.int .i64 x.1.h,.int .i64 x.1.v,.int .i64 x.1.c,.slice A n cap],.int .i64 x.2.1,.int .i64 x.2.2])∧Sl (tInt .i8) w' (bin w.heap.size w'.heap.size) A n cap x.1.data∧Below w.heap.size w w'
theorem runV_pos {l:List Node} {x:Tensor} {k:Nat} {out:List Tensor} (h:runV l x k=.on out):0 < out.length:=by
 cases k with
 | zero=>have h:RunV.on [x]=.on out:=h;injection h with h;rw [← h];simp
 | succ k =>
  have h:(match runV l x k with|.on out=>if (moreV (l.getD k noNode) out).2 ≠ 0 then RunV.bad k (moreV (l.getD k noNode) out).2 else .on (out ++ [(moreV (l.getD k noNode) out).1])|.bad i e=>.bad i e)=.on out:=h
  split at h
  ·split at h
   ·cases h
   ·injection h with h;rw [← h];simp
  ·cases h
theorem eval_any (A:Option Addr) (n cap:Nat) (l:List Node) (x:Tensor) (D:Option Addr) (m cm:Nat) (w:World) (hs:Sl tNode w (blo w.heap.size) A n cap l) (hx:TensorIn x) (hd:Sl (tInt .i8) w (blo w.heap.size) D m cm x.data) (h300:m≤300) (hf:∀ d ∈ l,d.w.length≤1000∧d.bias.length≤100) :
  Calls Tryz.prog 9 #[.slice A n cap,.agg #[.int .i64 x.h,.int .i64 x.v,.int .i64 x.c,.slice D m cm]] w (RetEv (evalV l x) w):=by
 have VA:=zH (fun w hs hd=>values_any A n cap l x D m cm w hs hx hd h300 hf)
 have VO:=zH (values_ok (l:=l) (x:=x))
 obtain ⟨r,hr⟩:∃ r,evalV l x=r:=⟨_,rfl⟩
 rw [hr]
 unfold evalV at hr
 obtain ⟨⟨vl,at_,code⟩,hv⟩:∃ q,valuesV l x=q:=⟨_,rfl⟩
 have VP:=zH (show code=0 → 0 < vl.length from fun h=>by
  rw [hv] at VO
  obtain ⟨_,_,out,h1,h2⟩:=VO.out h
  injection h2 with h2 _
  rw [h2];exact runV_pos h1)
 rw [hv] at hr VA
 simp only at hr
 have VV:=zH hr.symm
 have HS:=zH (Old.now hs)
 have HD:=zH (Old.now hd)
 clear hr hs hd hf hx hv VO
 have FR:=zH (Far.refl w)
 obtain ⟨w1,hw_w1,BA,k_w1⟩:=nB w #[.int .i64 x.h,.int .i64 x.v,.int .i64 x.c,.slice D m cm] 27
 replace FR:=zH (FR.out.fut k_w1)
 clear k_w1
 obtain ⟨w2,hw_w2,BR,k_w2⟩:=nB w1 #[.int .i64 0,.int .i64 0,.int .i64 0,.slice none 0 0] 27
 replace FR:=zH (FR.out.fut k_w2)
 replace BA:=zH (BA.out.fut k_w2)
 clear k_w2
 have l1:w.heap.size < w1.heap.size:=by rw [← hw_w1];simp
 have l2:w1.heap.size < w2.heap.size:=by rw [← hw_w2];simp
 go_enter Tryz.func9,Tryz.ntmps9
 go_wp2_with (refine lB 27 (.tmp 3) w.heap.size BA.out Tryz.underlying27 ?_)
 clear hw_w1 hw_w2
 refine (VA.out _ (HS.out.fut FR.out.out).all (HD.out.fut FR.out.out).all).mono ?_
 rintro e w3 ⟨B1,m1,c1,rfl,s1,hb⟩
 simp only at s1 ⊢
 have q3:=hb.size
 have S1:=zH s1
 clear s1 VA
 replace FR:=zH (FR.out.fut hb)
 replace BA:=zH (BA.out.fut hb)
 replace BR:=zH (BR.out.fut hb)
 clear hb
 by_cases c0:code=0
 rotate_left
 ·have t4:(code != 0)=true:=by simpa using c0
  have R:=zH (show r=(noTensor,at_,code) by rw [VV.out,if_neg c0])
  clear c0 VV VP
  go_wp2_with (refine wpList_store_all rfl 27 (.tmp 4) (.tmp 19) rfl w1.heap.size #[.int .i64 0,.int .i64 0,.int .i64 0,.slice none 0 0] rfl rfl _ _ BR.out rfl (by kernel_rfl) (by simp [Value.oneCell']) ?_;intro w7 BR7 g7)
  refine ret_cell_tmp3 rfl BR7 rfl Tryz.underlying27 (by kernel_rfl) rfl ?_
  rw [R.out]
  exact ⟨none,0,0,rfl,Sl.nil _ _ _,(FR.out.away g7 (by omega)).out⟩
 ·subst c0
  have t4:((0:Int) != 0)=false:=rfl
  have hp:=VP.out rfl
  have R:=zH (show r=(vl.getD (vl.length - 1) noTensor,at_,0) by rw [VV.out,if_pos rfl])
  have hm1:=S1.out.n_eq
  have hmx:m1≤9223372036854775807:=Nat.le_trans S1.out.cap_le S1.out.max_le
  obtain ⟨k,rfl⟩:∃ k,m1=k+1:=⟨m1 - 1,by omega⟩
  obtain ⟨t,b,off,D2,m2,c2,x1,rfl,hbS,_,ti,s2,q2⟩:=S1.out.tensor_at k (by omega)
  have R2:=zH (show r=(t,at_,0) by rw [R.out,hm1,show k+1 - 1=k from rfl,List.getD_eq_getElem?_getD,x1];rfl)
  have S2:=zH s2
  have Q2:=zH q2
  have e1:((k+1:Nat):Int) - 1=(k:Int):=by omega
  have e2:(k:Int)+1 - 1=(k:Int):=by omega
  clear VV VP hp R hm1 x1 s2 q2 ti S1
  go_wp2_with (first
   | (refine wpList_load_mid rfl 27 (.tmp 26) rfl b (off+k*4) rfl _ _ Q2.out Tryz.underlying27 rfl (by kernel_rfl) ?_)
   | (refine wpList_store_all rfl 27 (.tmp 4) (.tmp 27) rfl w1.heap.size #[.int .i64 t.h,.int .i64 t.v,.int .i64 t.c,.slice D2 m2 c2] rfl rfl _ _ BR.out rfl (by kernel_rfl) (by simp [Value.oneCell']) ?_;intro w7 BR7 g7))
  refine ret_cell_tmp3 rfl BR7 rfl Tryz.underlying27 (by kernel_rfl) rfl ?_
  rw [R2.out]
  exact ⟨D2,m2,c2,rfl,(S2.out.keep fun j hj=>g7.block j hj.2 (fun e=>by have:=Option.some.inj e;have:=hj.1;omega)).more fun j hj=>⟨by have:=hj.1;omega,Nat.lt_of_lt_of_le hj.2 g7.size⟩,(FR.out.away g7 (by omega)).out⟩
end Go.Proofs.YtjkmjpjknmghlaaGreat
