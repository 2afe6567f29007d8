/-
  slab.Of (layer 29): a block's plan.
  The fixed call of layer 29, and the walk of the law SlabPlans.
-/
import Derived.Test.YtmihnoagagbgaaaGreatJ46
set_option linter.unusedVariables false
set_option linter.unusedSimpArgs false
set_option maxRecDepth 100000
set_option maxHeartbeats 16000000
namespace Go.Proofs.YtmihnoagagbgaaaGreat
open Go.RowKit Go.ChangeShapes Go.WideShapes Go.Proofs.YtmihnoagagbgaaaGreat.Ar Tryz
set_option maxRecDepth 100000
set_option maxHeartbeats 16000000
section
variable {P:Program} {fn:Func} {R:Ending → World → Prop} {a:Act} {w:World} {g:Nat} {e ty:TypeId} {cs:Array Value} {fs:Array Field} {p u v:Tmp}
theorem gY (h:fn.results=#[.cell p ty,.tmp u,.tmp v]) (hb:Blk w g e cs) (hp:a.tmps.getD p undef=.pointer (some ⟨g,0,none⟩)) (hu:P.underlying ty=some (.struct fs)) (hi:(P.info? ty).map (·.size)=some cs.size) (hd:a.defers=[])
  (hR:R (.returned (.tuple #[.agg cs,a.tmps.getD u undef,a.tmps.getD v undef])) w):bodyPost P fn R .ret a w:=by
 refine bodyPost_ret (v:=.tuple #[.agg cs,a.tmps.getD u undef,a.tmps.getD v undef]) ?_ hd hR
 have hp':a.tmps[p]?.getD undef=.pointer (some ⟨g,0,none⟩):=by simpa using hp
 simp [results,h,Sem.run_bind,hp',cK,run_loadVar_row w g e ty cs (0,0) (.struct fs) hb.heap hu rfl hi,Result.andThen]
end
theorem nc (A:QA) (n cap:Nat) (A':QA) (n' cap':Nat) (sz un:List Int) (w:World) (h:Sl (aa .i64) w (blo w) A n cap sz) (h':Sl (aa .i64) w (blo w) A' n' cap' un) (c:mayOk sz un) :
  Calls prog 21 #[.slice A n cap,.slice A' n' cap'] w fun e w'=>∃ A c,e=.returned (.tuple #[.slice A n c,.int .i64 (roomTo sz un n),.bool true])∧Sl (aa .i64) w' (bin w w') A n c (atTo sz un n)∧Below w w w' :=
 (m9 A n cap A' n' cap' sz un w h h').mono fun e w' hr=>by unfold fX at hr;rw [if_pos c] at hr;exact hr
def s7 (x:(List Sh3 × List Int × Int) × Int × Int) (w:World) (e:Ending) (w':World):Prop :=
 ∃ A m c A2 m2 c2,e=.returned (.tuple #[.agg #[.slice A m c,.slice A2 m2 c2,.int .i64 x.1.2.2],.int .i64 x.2.1,.int .i64 x.2.2])∧Sl dC w' (bin w w') A m c x.1.1∧Sl (aa .i64) w' (bin w w') A2 m2 c2 x.1.2.1∧Below w w w'
theorem jJ (A:QA) (n cap:Nat) (l:List af) (h v c:Int) (w:World) (hs:Sl ee w (blo w) A n cap l) (i0:InK .i64 h) (i1:InK .i64 v) (i2:InK .i64 c) (hf:r4 l) :
  Calls prog 9 #[.slice A n cap,.agg (sN h v c)] w (s7 (ga l (h,v,c)) w):=by
 have hn:=hs.n_eq
 obtain ⟨r,hr⟩:∃ r,ga l (h,v,c)=r:=⟨_,rfl⟩
 rw [hr]
 unfold ga at hr
 have FR:=zW w
 obtain ⟨w1,w2,yw1,yw2,_,_,BA,BP,yk2⟩:=bk2 w (sN h v c) 24 #[.slice none 0 0,.slice none 0 0,.int .i64 0] 46
 replace FR:=zF yk2 FR
 clear yk2
 have H:=zH (hs.later FR.u (lR _))
 have PS:=zH (p9 A n cap l h v c w2 H.o i0 i1 i2 hf.2)
 have OKS:=zH (fun (sl:List Sh3) (p:Int) (h':bh l (h,v,c)=(sl,p,0))=>p8 h')
 obtain ⟨⟨sl,p,er⟩,hsr⟩:∃ r,bh l (h,v,c)=r:=⟨_,rfl⟩
 rw [hsr] at hr PS OKS
 simp only at hr
 have R:=zH hr.symm
 have HN:=zH hn
 have F:=zH hf
 have l1:=zL yw1
 have l2:=zL yw2
 clear hr hsr hs hn i0 i1 i2 hf
 go_in
 go_wp2_with (refine lGJ19 BA.o ?_)
 clear yw1 yw2
 refine PS.o.mono ?_
 rintro e w3 ⟨A1,m,c1,rfl,hs1,hb⟩
 have S1:=zH hs1
 have z2:=hb.size
 have G3:=zH (Far.mk hb)
 obtain ⟨FR,BP⟩:=uz2 hb FR BP
 clear hb
 clear hs1 PS BA
 by_cases he:er=0
 rotate_left
 ·have t1:(er != 0)=true:=by simpa using he
  rw [if_pos he] at R
  clear he OKS
  go_wp2_with (refine sGJ19 #[.slice none 0 0,.slice none 0 0,.int .i64 0] BP.o ?_;intro w4 BQ gq;have BQ:=zH BQ;have gq:=zH gq)
  have BF:=Below.grown FR.u gq.out FR.o.size (fun k hk=>by have:=sI hk;omega)
  refine gY rfl BQ.o rfl underlying46 kM rfl ?_
  rw [R.o]
  exact ⟨none,0,0,none,0,0,rfl,Sl.nil _ _ _,Sl.nil _ _ _,BF⟩
 subst he
 have t1:((0:Int) != 0)=false:=rfl
 rw [if_neg dM] at R
 have OK:=zH (OKS.o _ _ rfl)
 have hm:=S1.o.n_eq
 obtain rfl:m=n+1:=by rw [← hm,OK.o.len,HN.o]
 have h8:n≤8:=by rw [← HN.o];exact OK.o.few
 have HM:=zH hm
 clear OKS hm t1
 have T1:=zH S1.o.old
 go_wp2
 go_loopw [10,30] (fun u i wr=>∃ k:Nat,k≤n+1∧i=.int .i64 k∧Own (aa .i64) wr (fun _=>False) w3.heap.size 3 u k (aI (sl.take k))∧Below w3 w3 wr) (fun _ i _=>n+1 - (intOf i).toNat)
 case atStart=>exact ⟨0,zl _,rfl,by simpa [aI] using Own.nil _ _ _ _ _,qB _ _⟩
 case round =>
  obtain ⟨k,hk,rfl,hown,hb⟩:=hrel
  have HB:=zH hb
  have ON:=zH hown
  clear hown hb
  by_cases hlt:k < n+1
  ·have p1:(k:Int) < (n:Int)+1:=oM
   obtain ⟨b1,off1,rfl,_,_,j1,j2,j3,_,r1⟩:=(T1.o.below HB.o (fun _ h=>h)).shape_at k hlt
   have hst:=oE sl k (by rw [HM.o];exact hlt)
   obtain ⟨⟨x1,x2,x3⟩,hx⟩:∃ x,sl.getD k (0,0,0)=x:=⟨_,rfl⟩
   rw [hx] at r1 j1 j2 j3 hst
   simp only at r1 j1 j2 j3 hst
   have RG:=zH r1
   have ST:=zH hst
   have EL:=zH (fun w=>bQ x1 x3 x2 w j1 j2 j3)
   have eb:=aC x1 x2 x3
   obtain ⟨y,hy⟩:∃ y,ab x1 x2 x3=y:=⟨_,rfl⟩
   rw [hy] at ST EL eb
   obtain ⟨eb1,eb2⟩:=eb
   have zr:=HB.o.size
   clear hx r1 j1 j2 j3 hst hy
   go_wp2_with (first
    | (refine wpList_load_mid rfl 24 (.tmp 32) rfl b1 (off1+k*3) rfl _ _ RG.o underlying24 rfl kM ?_)
    | (refine sGJ19 (sN x1 x2 x3) (Blk.now _ _ _ _ rfl) ?_;intro w7 B7 g7;have G7:=zH (show Below wr wr w7 from ((qB _ _).alloc (lR _) _).grown g7 sM (fun k h=>by have:=sI h;omega));have BX:=zH B7;clear B7 g7)
    | (refine lGJ19 BX.o ?_))
   refine qM (EL.o _) fun w8 hb=>?_
   have G8:=zH (ag hb (ag G7.o HB.o))
   have O8:=zH ((ON.o.below G7.o (lR _) (fun _ h=>h.elim)).below hb (lR _) (fun _ h=>h.elim))
   have z0:=G8.o.size
   clear hb EL ON
   go_wp2_with (at_builtin;refine wpList_push (t:=aa .i64) rfl (.tmp 34) (.tmp 37) rfl jn rfl O8.o 1 rfl y ⟨rfl,by rw [ah];omega⟩ (by unfold maxLen;omega) oM z0 (fun _ h=>h.elim) ?_;intro v' w9 own9 g9 at9)
   have b9:=G8.o.grown g9 z0 (fun j hj=>(O8.o.lt j hj).1)
   exact ⟨⟨k+1,by omega,by go_num,by rw [ST.o];exact own9,b9⟩,by simp [intOf];omega⟩
  ·obtain rfl:k=n+1:=oM
   have hall:sl.take (n+1)=sl:=List.take_of_length_le (by rw [HM.o];exact lR _)
   rw [hall] at ON
   have zr:=HB.o.size
   have H4:=zH ((H.o.later G3.o.out (lR _)).later HB.o (lR _))
   have F4:=zH (FR.o.fut HB.o)
   have T4:=zH ((S1.o.since ⟨(qB _ _)⟩).below HB.o (fun _ h=>h.2))
   have P4:=zH (BP.o.fut HB.o)
   obtain ⟨A9,c9,rfl,s9⟩:=ON.o.sl (S':=bin w3 wr) dM (fun b h1 h2=>⟨h1,h2⟩) (fun _ h=>h.elim)
   have S9:=zH s9
   clear ON s9 T1 H FR BP hlt hk hall HB
   go_wp2_with fail
   refine (sn A n cap l wr H4.o oM).mono ?_
   rintro e w5 ⟨A5,m5,c5,rfl,hs5,hb⟩
   obtain rfl:m5=n+1:=by rw [← hs5.n_eq,fv,HN.o]
   have S5:=zH hs5
   have z5:=hb.size
   have S9:=zH (S9.o.old.fut hb)
   have T5:=zH (T4.o.below hb (fun _ h=>Nat.lt_of_lt_of_le h.2 zr))
   obtain ⟨F4,P4⟩:=uz2 hb F4 P4
   clear hb
   clear hs5 H4 T4
   go_wp2_with fail
   refine (nc A9 (n+1) c9 A5 (n+1) c5 (aI sl) (aV l) w5 S9.o S5.o.old (i9 OK.o)).mono ?_
   rintro e w6 ⟨A6,c6,rfl,hs6,hb⟩
   have T6:=zH (T5.o.below hb (fun _ h=>Nat.lt_of_lt_of_le h.2 (lT zr z5)))
   have S6:=zH hs6
   have z6:=hb.size
   obtain ⟨F4,P4⟩:=uz2 hb F4 P4
   clear hb
   rw [HN.o] at R
   have RB:=zH (oQ OK.o)
   rw [HN.o] at RB
   obtain ⟨rm,hrm⟩:∃ x,roomTo (aI sl) (aV l) (n+1)=x:=⟨_,rfl⟩
   obtain ⟨al,hal⟩:∃ x,atTo (aI sl) (aV l) (n+1)=x:=⟨_,rfl⟩
   rw [hrm] at R ⊢
   rw [hal] at R S6
   have hp:=OK.o.at_
   rw [HN.o] at hp
   have HP:=zH hp
   clear hs6 S9 S5 T5 hrm hal RB hp
   go_wp2_with (refine sGJ19 #[.slice A1 (n+1) c1,.slice A6 (n+1) c6,.int .i64 rm] P4.o ?_;intro w7 BQ gq;have BQ:=zH BQ;have gq:=zH gq)
   have BF:=F4.o.out.grown gq.out F4.o.size (fun k hk=>by have:=sI hk;omega)
   refine gY rfl BQ.o rfl underlying46 kM rfl ?_
   rw [R.o,HP.o]
   have zq:=gq.out.size
   refine ⟨A1,n+1,c1,A6,n+1,c6,rfl,?_,?_,BF⟩
   ·exact (T6.o.keep fun b hb=>gq.out.block b (by have:=hb.2;omega) (by have:=hb.1;simp;omega)).more fun b hb=>⟨by have:=hb.1;omega,by have:=hb.2;omega⟩
   ·exact (S6.o.keep fun b hb=>gq.out.block b hb.2 (by have:=hb.1;simp;omega)).more fun b hb=>⟨by have:=hb.1;omega,by have:=hb.2;omega⟩
theorem pN:ga [pn] (2,1,1)=(([(2,1,1),(1,1,2)],[0,2],4),1,0):=by decide +kernel
theorem nC (w:World):Calls prog 5 #[] w fun e w'=>e=.returned (.bool true)∧Below w w w':=by
 go_in
 go_wp2_with (refine di rfl (.tmp 5) rfl tf (nN 9 0 0 0 0 0 0 0 0 none 0 0 none 0 0 0 0 0 0 0 0 0 0) rfl rfl dM ?_)
 have b1:Below w w (w.alloc (.cells (nN 9 0 0 0 0 0 0 0 0 none 0 0 none 0 0 0 0 0 0 0 0 0 0) 42)):=(qB _ _).alloc (lR _) _
 refine (jJ _ 1 1 [pn] 2 1 1 _ (Sl.of_block (eX _ _ _ rfl) (show blo _ _ by simp [blo]) (lR _) (by unfold maxLen;decide) rfl (RowsOf.one (qL _ _))) dM dM dM ⟨by decide,by intro d hd;simp at hd;subst hd;decide⟩).mono ?_
 rintro e w2 ⟨A,m,cp,A2,m2,c2,rfl,hs,hs2,hb⟩
 rw [pN] at hs hs2 ⊢
 obtain rfl:m2=2:=hs2.n_eq.symm
 have FR:=zH (Far.mk (ag hb b1))
 have HS:=zH hs2.old
 clear hs hs2 hb b1
 go_wp2_with (refine sGJ19 #[.slice A m cp,.slice A2 2 c2,.int .i64 4] (Blk.now _ _ _ _ rfl) ?_;intro w3 BQ gq;have BQ:=zH BQ;have GQ:=zH (show Below w2 w2 w3 from ((qB _ _).alloc (lR _) _).grown gq sM (fun k h=>by have:=sI h;omega));clear gq;obtain ⟨q1,q2⟩:=uc2 BQ 1 2)
 have FQ:=zH (FR.o.fut GQ.o)
 have SQ:=zH (HS.o.fut GQ.o)
 clear FR HS GQ
 refine qM (sO _ _ _ _ _ _ [0,2] _ (SQ.o.fut ((qB _ _).alloc (lR _) _)) (Sl.lit [0,2] (eX _ _ _ rfl) rfl (by intro x hx;simp at hx;rcases hx with rfl|rfl <;> decide) (show blo _ _ by simp [blo]) rfl rfl (by simp [maxLen]))) fun w4 hb=>?_
 have G:=zH (ag hb (FQ.o.out.alloc FQ.o.size _))
 clear hb SQ q1 q2
 go_wp2
 go_ret
 exact ⟨rfl,G.o⟩
theorem rq {l:List af} {s:Sh3} {sl:List Sh3} {p er:Int} (h:bh l s=(sl,p,er)) (he:er ≠ 0):ga l s=(([],[],0),p,er):=by
 unfold ga;rw [h];simp only;rw [if_pos he]
theorem sK {l:List af} {s:Sh3} {sl:List Sh3} {p:Int} (h:bh l s=(sl,p,0)):ga l s=((sl,atTo (aI sl) (aV l) (l.length+1),roomTo (aI sl) (aV l) (l.length+1)),(l.length:Int),0):=by
 unfold ga;rw [h];simp only;rw [if_neg dM]
theorem Apart.two {su un su' un':Value} {m m':Nat} (h:Apart su un) (h1:su'.ownBlock=su.ownBlock ∨ su'.ownBlock=some m) (l1:∀ k,un.ownBlock=some k → k < m) (h2:un'.ownBlock=un.ownBlock ∨ un'.ownBlock=some m') (l2:∀ k,su'.ownBlock=some k → k < m'):Apart su' un' :=
 ((h.push h1 l1).symm.push h2 l2).symm
end Go.Proofs.YtmihnoagagbgaaaGreat
