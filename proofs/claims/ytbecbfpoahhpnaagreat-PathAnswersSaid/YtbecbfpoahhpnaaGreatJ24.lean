/- An empty row of a call's own. -/
import Derived.Test.YtbecbfpoahhpnaaGreatJ12
import Derived.Test.YtbecbfpoahhpnaaGreatJ21
import Derived.Test.YtbecbfpoahhpnaaGreatJ20
import Derived.RangeFuncCalls
import Derived.Test.YtbecbfpoahhpnaaGreatJ23
set_option linter.unusedVariables false
set_option linter.unusedSimpArgs false
set_option maxRecDepth 100000
set_option maxHeartbeats 16000000
namespace Go.Proofs.YtbecbfpoahhpnaaGreat
open Go.RowKit Go.ChangeShapes Go.WideShapes Tryz
theorem Own.lit0 {W:World} {k:IntKind} {E:TypeId} {base:Nat} (e:base≤W.heap.size):Own (ab k) (W.alloc (.cells #[] E)) (fun _=>False) base E (.slice (some ⟨W.heap.size,0,none⟩) 0 0) 0 [] :=
 ⟨[],⟨rfl,.inr ⟨_,0,#[],rfl,e,heap_alloc_new _ _,lR _,by decide,rfl,rfl⟩⟩,rfl⟩
theorem DI:EI prog 27 80 (.int .i8 0) 1 1:=⟨underlying27,by kernel_rfl,rfl,by decide⟩
theorem eV (A:QA) (n c:Nat) (l:List Int) (w:World) (h:xA w A n c l) (f:n≤140737488351232) :
  Calls prog 59 #[.slice A n c] w (RetSl (ab .i8) w l):=by
 cases A with
 | none =>
  have i:=h.nil_ rfl;have m:=h.cap_le;obtain rfl:c=0:=i;obtain rfl:n=0:=oM;obtain rfl:l=[]:=List.length_eq_zero_iff.1 h.n_eq;clear h;have e:=fun w=>Lib.run_eql_slice_nil (P:=prog) w 27 80 none 0 0 0 0 underlying27;simp only [Option.isNone_none] at e;go_in;go_wp2;go_ret;exact ⟨none,0,0,rfl,Sl.nil _ _ _,qB _ _⟩
 | some ad =>
  have H:=zH h;clear h;have e:=fun w=>Lib.run_eql_slice_nil (P:=prog) w 27 80 (some ad) n c 0 0 underlying27;simp only [Option.isNone_some] at e;go_in;have t:=Own.lit0 (W:=w) (k:=.i8) (E:=80) (base:=w.heap.size) (lR _);have k0:Below w w (w.alloc (.cells #[] 80)):=(qB _ _).alloc (lR _) _;have r:=H.o.later k0 (lR _)
  go_wp2_with (at_builtin;refine fu rfl _ _ rfl DI rfl t rfl r mL oM k0.size ?_;intro y w' s a d)
  go_ret;refine s.ret dM (k0.grown a k0.size (fun k h=>(t.lt k h).1)) (fun b h=>h.elim)
theorem CU:EI prog 42 21 (.int .i32 0) 1 4:=⟨underlying42,by kernel_rfl,rfl,by decide⟩
theorem fY (A:QA) (n c:Nat) (l:List Int) (w:World) (h:xB w A n c l) (f:n≤35184372087808) :
  Calls prog 80 #[.slice A n c] w (RetSl (ab .i32) w l):=by
 cases A with
 | none =>
  have i:=h.nil_ rfl;have m:=h.cap_le;obtain rfl:c=0:=i;obtain rfl:n=0:=oM;obtain rfl:l=[]:=List.length_eq_zero_iff.1 h.n_eq;clear h;have e:=fun w=>Lib.run_eql_slice_nil (P:=prog) w 42 21 none 0 0 0 0 underlying42;simp only [Option.isNone_none] at e;go_in;go_wp2;go_ret;exact ⟨none,0,0,rfl,Sl.nil _ _ _,qB _ _⟩
 | some ad =>
  have H:=zH h;clear h;have e:=fun w=>Lib.run_eql_slice_nil (P:=prog) w 42 21 (some ad) n c 0 0 underlying42;simp only [Option.isNone_some] at e;go_in;have t:=Own.lit0 (W:=w) (k:=.i32) (E:=21) (base:=w.heap.size) (lR _);have k0:Below w w (w.alloc (.cells #[] 21)):=(qB _ _).alloc (lR _) _;have r:=H.o.later k0 (lR _)
  go_wp2_with (at_builtin;refine fu rfl _ _ rfl CU rfl t rfl r mL oM k0.size ?_;intro y w' s a d)
  go_ret;refine s.ret dM (k0.grown a k0.size (fun k h=>(t.lt k h).1)) (fun b h=>h.elim)
def vN (d:af) (w:World) (e:Ending) (w':World):Prop :=
 ∃ (W:QA) (nw cw:Nat) (B:QA) (nb cb:Nat),e=.returned (.agg (nD d W nw cw B nb cb))∧Sl (ab .i8) w' (bin w w') W nw cw d.w∧Sl (ab .i32) w' (bin w w') B nb cb d.bias∧Below w w w'
def cF (d:af):af :=
 { kind:=d.kind,a:=d.a,b:=if d.kind=6 then d.b else 0,k:=if cV d.kind then d.k else 0,s:=if cV d.kind then d.s else 0,p:=if cV d.kind || decide (d.kind=8) then d.p else 0,out:=if d.kind=1 ∨ d.kind=3 then d.out else 0,za:=if aG d.kind || decide (d.kind=8) then d.za else 0,zb:=if d.kind=6 then d.zb else 0,w:=if bk d.kind then d.w else [],bias:=if bk d.kind then d.bias else [],qm:=if aG d.kind then d.qm else 0,qs:=if aG d.kind then d.qs else 0,qz:=if aG d.kind then d.qz else 0,rm:=if d.kind=6 then d.rm else 0,rs:=if d.kind=6 then d.rs else 0,rz:=0,lo:=if aG d.kind then d.lo else 0,hi:=if aG d.kind then d.hi else 0 }
def tP (d:af):af :=
 { kind:=d.kind,a:=d.a,b:=if d.kind=6 then d.b else 0,k:=if cV d.kind then d.k else 0,s:=if cV d.kind then d.s else 0,p:=if cV d.kind || decide (d.kind=8) then d.p else 0,out:=if d.kind=1 ∨ d.kind=3 then d.out else 0,za:=if d.kind=8 then d.za else 0,zb:=if d.kind=6 then d.zb else 0,w:=if bk d.kind then d.w else [],bias:=if bk d.kind then d.bias else [],qm:=0,qs:=0,qz:=0,rm:=if d.kind=6 then d.rm else 0,rs:=if d.kind=6 then d.rs else 0,rz:=0,lo:=0,hi:=0 }
theorem xy (d:af):cF d=if aG d.kind=true then { tP d with za:=d.za,qm:=d.qm,qs:=d.qs,qz:=d.qz,lo:=d.lo,hi:=d.hi } else tP d:=by
 by_cases h:aG d.kind=true
 ·rw [if_pos h];unfold cF tP;simp [h]
 ·rw [if_neg h];unfold cF tP;simp [h]
theorem BJ (f a b k s p out V zb qm qs qz rm rs rz lo hi:Int) (wl bl:List Int) (W:QA) (nw cw:Nat) (B:QA) (nb cb:Nat) (w:World) (hk:f=1 ∨ f=2 ∨ f=3 ∨ f=4 ∨ f=5 ∨ f=6 ∨ f=7 ∨ f=8 ∨ f=9) (hw:xA w W nw cw wl) (T:xB w B nb cb bl) (mw:nw≤1048576) (mb:nb≤1048576) :
  Calls prog 136 #[.agg (nN f a b k s p out V zb W nw cw B nb cb qm qs qz rm rs rz lo hi)] w (vN (cF ⟨f,a,b,k,s,p,out,V,zb,wl,bl,qm,qs,qz,rm,rs,rz,lo,hi⟩) w):=by
 obtain ⟨z,q,SC,NM,PM⟩:=zh5 (Old.now hw) (Old.now T) (fun w=>nC f w) (fun w=>qS f w) (xy ⟨f,a,b,k,s,p,out,V,zb,wl,bl,qm,qs,qz,rm,rs,rz,lo,hi⟩);have tn:(f7 f).toList.isEmpty=false:=by rcases hk with h|h|h|h|h|h|h|h|h <;> (subst h;rw [ByteArray.toList_eq];rfl)
 have HK:=zH hk;clear hw T hk;have A:=zW w;obtain ⟨w1,w2,bA,bN,_,_,d,n,k2⟩:=bk2 w (nN f a b k s p out V zb W nw cw B nb cb qm qs qz rm rs rz lo hi) 84 (nN 0 0 0 0 0 0 0 0 0 none 0 0 none 0 0 0 0 0 0 0 0 0 0) 84;obtain ⟨A,z,q⟩:=uz3 k2 A z q;clear k2;obtain ⟨R,bd⟩:=uc2 d 0 1;have bz:=zH (show w.heap.size≤w1.heap.size by rw [← bA];simp);go_in;go_wp2_with fail;clear bA bN;refine qM (NM.o _) fun N T=>?_;clear R bd;obtain ⟨A,z,q,d,n⟩:=uz5 T A z q d n;clear T;have ln:w.heap.size < N.heap.size:=d.o.lt;have lr:w1.heap.size < N.heap.size:=n.o.lt;obtain ⟨R,bd⟩:=uc2 d 0 1;obtain ⟨w4,bO,BM,k4⟩:=nB N (nN 0 0 0 0 0 0 0 0 0 none 0 0 none 0 0 0 0 0 0 0 0 0 0) 84;obtain ⟨A,z,q,d,n⟩:=uz5 k4 A z q d n;clear k4;go_upto_block 0 with (refine sG (nN f a 0 0 0 0 0 0 0 none 0 0 none 0 0 0 0 0 0 0 0 0 0) BM.o ?_;intro w5 Q g5;replace A:=zA g5 A;replace z:=zA g5 z;replace q:=zA g5 q;replace d:=zA g5 d;replace n:=zA g5 n;clear R bd g5;have R:=d.o.cell 0)
 clear bO BM tn NM;have lm:N.heap.size < w5.heap.size:=Q.lt;go_cut [] (fun wx=>∃ (m:af) (C:QA) (F D:Nat) (I:QA) (L J:Nat),tP ⟨f,a,b,k,s,p,out,V,zb,wl,bl,qm,qs,qz,rm,rs,rz,lo,hi⟩=m∧Blk wx N.heap.size 84 (nD m C F D I L J)∧New w5 (ab .i8) wx C F D m.w∧New w5 (ab .i32) wx I L J m.bias∧Far w wx∧Blk wx w.heap.size 84 (nN f a b k s p out V zb W nw cw B nb cb qm qs qz rm rs rz lo hi)∧Blk wx w1.heap.size 84 (nN 0 0 0 0 0 0 0 0 0 none 0 0 none 0 0 0 0 0 0 0 0 0 0))
 case first =>
  rcases HK.o with h|h|h|h|h|h|h|h|h
  ·subst h;clear HK PM SC;have c6:=d.o.cell 6
   go_wp2_with (refine wpList_store_one rfl 3 (.tmp 31) (.tmp 30) rfl N.heap.size 6 (.int .i64 out) rfl rfl rfl rfl _ (nN 1 a 0 0 0 0 0 0 0 none 0 0 none 0 0 0 0 0 0 0 0 0 0) (nN 1 a 0 0 0 0 out 0 0 none 0 0 none 0 0 0 0 0 0 0 0 0 0) Q sM kM rfl ?_;intro w6 G g)
   replace A:=zA g A;replace z:=zA g z;replace q:=zA g q;replace d:=zA g d;replace n:=zA g n;have bB:=zH (show w5.heap.size≤w6.heap.size from g.size);clear c6 R g Q;have ax:w5.heap.size≤w6.heap.size:=bB.out;have bx:N.heap.size < w6.heap.size:=G.lt;refine wp_region_held_drew (S:=fun w'=>w'.cell? ⟨w.heap.size,9,none⟩=some (.slice W nw cw)∧w'.cell? ⟨w.heap.size,10,none⟩=some (.slice B nb cb)∧Blk w' w.heap.size 84 (nN 1 a b k s p out V zb W nw cw B nb cb qm qs qz rm rs rz lo hi)∧Below w w w') kM ?_ (fun t=>?_)
   ·exact ⟨d.o.drew.cell 9,d.o.drew.cell 10,d.o.drew,A.u.drew⟩
   refine kH' 0 t ?_;refine kH' 1 t ?_;refine kH' 3 t ?_;refine kH' 4 t ?_;refine rH 2 rfl (fun K i=>?_);go_simp;refine (eV W nw cw wl _ (z.o.fut (qB _ _).drew).all oM).mono ?_;rintro e wa ⟨C,F,D,rfl,hs,T⟩;have SA:=zH hs;have KA:=zH (az (qB _ _).drew T (lR _));clear hs;refine xK i (zR T t) fun t=>?_;clear i K;refine kH' 6 t ?_;refine rH 5 rfl (fun K i=>?_);go_simp;refine (fY B nb cb bl _ (q.o.fut KA.o).all oM).mono ?_;rintro e wb ⟨I,L,J,rfl,hs,T⟩;have SB:=zH hs;have ah:=zH T;have KB:=zH (az KA.o T KA.o.size);clear hs;have ad:=zH (G.later KB.o);refine xK i (zR T t) fun t=>?_;clear i K;refine rH 7 rfl (fun K i=>?_)
   (rw [if_pos (by rfl)];refine oper_store_one 27 (.tmp 38) (.tmp 34) rfl N.heap.size 9 (.slice C F D) rfl rfl rfl rfl _ (nN 1 a 0 0 0 0 out 0 0 none 0 0 none 0 0 0 0 0 0 0 0 0 0) (nN 1 a 0 0 0 0 out 0 0 C F D none 0 0 0 0 0 0 0 0 0 0) ad.o sM kM rfl ?_;intro w7 M j;have r:=(t.2.2.1).away j oM;refine i.out _ _ ⟨r.cell 9,r.cell 10,r,(t.2.2.2).grown j (t.2.2.2).size (fun k h=>by have:=sI h;omega)⟩ (fun t=>?_))
   clear i K;try simp only [pX]
   refine kH' 8 t ?_;refine rH 9 rfl (fun K i=>?_)
   (rw [if_pos (by rfl)];refine oper_store_one 42 (.tmp 39) (.tmp 37) rfl N.heap.size 10 (.slice I L J) rfl rfl rfl rfl _ (nN 1 a 0 0 0 0 out 0 0 C F D none 0 0 0 0 0 0 0 0 0 0) (nN 1 a 0 0 0 0 out 0 0 C F D I L J 0 0 0 0 0 0 0 0) M sM kM rfl ?_;intro w8 Z H;have l:=(t.2.2.1).away H oM;refine i.out _ _ ⟨l.cell 9,l.cell 10,l,(t.2.2.2).grown H (t.2.2.2).size (fun k h=>by have:=sI h;omega)⟩ (fun t=>?_))
   clear i K;try simp only [pX]
   refine wpAnyH_done kM ?_ _;replace A:=zH (Far.mk (t.2.2.2));replace d:=zH (t.2.2.1);clear t r l;obtain ⟨v,y⟩:=zh2 (New.mk (w0:=w5) ((SA.o.below ah.o (fun _ h=>h.2)).more (fun x U=>⟨lT ax U.1,Nat.lt_of_lt_of_le U.2 ah.o.size⟩))) (New.mk (w0:=w5) (SB.o.more (fun x U=>⟨lT (lT ax (show w6.heap.size≤wa.heap.size from KA.o.size)) U.1,U.2⟩)));replace n:=zH (n.o.fut KB.o);clear SA SB ah KA T KB z q ad G;replace n:=zA j n;replace v:=zA j v;replace y:=zA j y;clear j;replace n:=zA H n;replace v:=zA H v;replace y:=zA H y;clear H;clear M;go_wp2_with fail;refine wp_region_held_drew (S:=fun w'=>w'.cell? ⟨w.heap.size,3,none⟩=some (.int .i64 k)∧w'.cell? ⟨w.heap.size,4,none⟩=some (.int .i64 s)∧w'.cell? ⟨w.heap.size,5,none⟩=some (.int .i64 p)∧Blk w' w.heap.size 84 (nN 1 a b k s p out V zb W nw cw B nb cb qm qs qz rm rs rz lo hi)∧Below w w w') kM ?_ (fun t=>?_)
   ·exact ⟨d.o.drew.cell 3,d.o.drew.cell 4,d.o.drew.cell 5,d.o.drew,A.u.drew⟩
   refine kH' 0 t ?_;refine kH' 1 t ?_;refine kH' 2 t ?_;refine kH' 3 t ?_;refine kH' 4 t ?_;refine kH' 5 t ?_;refine kH' 6 t ?_;refine rH 7 rfl (fun K i=>?_)
   (rw [if_pos (by rfl)];refine oper_store_one 3 (.tmp 46) (.tmp 41) rfl N.heap.size 3 (.int .i64 k) rfl rfl rfl rfl _ (nN 1 a 0 0 0 0 out 0 0 C F D I L J 0 0 0 0 0 0 0 0) (nN 1 a 0 k 0 0 out 0 0 C F D I L J 0 0 0 0 0 0 0 0) Z.drew sM kM rfl ?_;intro w9 bs g9;have an:=(t.2.2.2.1).away g9 oM;refine i.out _ _ ⟨an.cell 3,an.cell 4,an.cell 5,an,(t.2.2.2.2).grown g9 (t.2.2.2.2).size (fun k h=>by have:=sI h;omega)⟩ (fun t=>?_))
   clear i K;try simp only [pX]
   refine kH' 8 t ?_;refine rH 9 rfl (fun K i=>?_)
   (rw [if_pos (by rfl)];refine oper_store_one 3 (.tmp 47) (.tmp 43) rfl N.heap.size 4 (.int .i64 s) rfl rfl rfl rfl _ (nN 1 a 0 k 0 0 out 0 0 C F D I L J 0 0 0 0 0 0 0 0) (nN 1 a 0 k s 0 out 0 0 C F D I L J 0 0 0 0 0 0 0 0) bs sM kM rfl ?_;intro bH be X;have O:=(t.2.2.2.1).away X oM;refine i.out _ _ ⟨O.cell 3,O.cell 4,O.cell 5,O,(t.2.2.2.2).grown X (t.2.2.2.2).size (fun k h=>by have:=sI h;omega)⟩ (fun t=>?_))
   clear i K;try simp only [pX]
   refine kH' 10 t ?_;refine rH 11 rfl (fun K i=>?_)
   (rw [if_pos (by rfl)];refine oper_store_one 3 (.tmp 48) (.tmp 45) rfl N.heap.size 5 (.int .i64 p) rfl rfl rfl rfl _ (nN 1 a 0 k s 0 out 0 0 C F D I L J 0 0 0 0 0 0 0 0) (nN 1 a 0 k s p out 0 0 C F D I L J 0 0 0 0 0 0 0 0) be sM kM rfl ?_;intro bM bt Y;have P:=(t.2.2.2.1).away Y oM;refine i.out _ _ ⟨P.cell 3,P.cell 4,P.cell 5,P,(t.2.2.2.2).grown Y (t.2.2.2.2).size (fun k h=>by have:=sI h;omega)⟩ (fun t=>?_))
   clear i K;try simp only [pX]
   refine wpAnyH_done kM ?_ _;replace A:=zH (Far.mk (t.2.2.2.2));replace d:=zH (t.2.2.2.1);clear t an O P;replace n:=zH (n.o.draw);replace v:=zH (v.o.draw);replace y:=zH (y.o.draw);replace n:=zA g9 n;replace v:=zA g9 v;replace y:=zA g9 y;clear g9;replace n:=zA X n;replace v:=zA X v;replace y:=zA X y;clear X;replace n:=zA Y n;replace v:=zA Y v;replace y:=zA Y y;clear Y;clear bs;clear be;go_wp2_with fail;go_meet
   case rel=>exact ⟨_,C,F,D,I,L,J,rfl,bt,v.o,y.o,A.o,d.o,n.o⟩
  ·subst h;clear HK PM SC;go_wp2_with fail;clear R;have ax:w5.heap.size≤w5.heap.size:=lR _;have bx:N.heap.size < w5.heap.size:=Q.lt;refine wp_region_held_drew (S:=fun w'=>w'.cell? ⟨w.heap.size,9,none⟩=some (.slice W nw cw)∧w'.cell? ⟨w.heap.size,10,none⟩=some (.slice B nb cb)∧Blk w' w.heap.size 84 (nN 2 a b k s p out V zb W nw cw B nb cb qm qs qz rm rs rz lo hi)∧Below w w w') kM ?_ (fun t=>?_)
   ·exact ⟨d.o.drew.cell 9,d.o.drew.cell 10,d.o.drew,A.u.drew⟩
   refine kH' 0 t ?_;refine kH' 1 t ?_;refine kH' 3 t ?_;refine kH' 4 t ?_;refine rH 2 rfl (fun K i=>?_);go_simp;refine (eV W nw cw wl _ (z.o.fut (qB _ _).drew).all oM).mono ?_;rintro e wa ⟨C,F,D,rfl,hs,T⟩;have SA:=zH hs;have KA:=zH (az (qB _ _).drew T (lR _));clear hs;refine xK i (zR T t) fun t=>?_;clear i K;refine kH' 6 t ?_;refine rH 5 rfl (fun K i=>?_);go_simp;refine (fY B nb cb bl _ (q.o.fut KA.o).all oM).mono ?_;rintro e wb ⟨I,L,J,rfl,hs,T⟩;have SB:=zH hs;have ah:=zH T;have KB:=zH (az KA.o T KA.o.size);clear hs;have ad:=zH (Q.later KB.o);refine xK i (zR T t) fun t=>?_;clear i K;refine rH 7 rfl (fun K i=>?_)
   (rw [if_pos (by rfl)];refine oper_store_one 27 (.tmp 38) (.tmp 34) rfl N.heap.size 9 (.slice C F D) rfl rfl rfl rfl _ (nN 2 a 0 0 0 0 0 0 0 none 0 0 none 0 0 0 0 0 0 0 0 0 0) (nN 2 a 0 0 0 0 0 0 0 C F D none 0 0 0 0 0 0 0 0 0 0) ad.o sM kM rfl ?_;intro w6 G g;have c:=(t.2.2.1).away g oM;refine i.out _ _ ⟨c.cell 9,c.cell 10,c,(t.2.2.2).grown g (t.2.2.2).size (fun k h=>by have:=sI h;omega)⟩ (fun t=>?_))
   clear i K;try simp only [pX]
   refine kH' 8 t ?_;refine rH 9 rfl (fun K i=>?_)
   (rw [if_pos (by rfl)];refine oper_store_one 42 (.tmp 39) (.tmp 37) rfl N.heap.size 10 (.slice I L J) rfl rfl rfl rfl _ (nN 2 a 0 0 0 0 0 0 0 C F D none 0 0 0 0 0 0 0 0 0 0) (nN 2 a 0 0 0 0 0 0 0 C F D I L J 0 0 0 0 0 0 0 0) G sM kM rfl ?_;intro w7 M j;have r:=(t.2.2.1).away j oM;refine i.out _ _ ⟨r.cell 9,r.cell 10,r,(t.2.2.2).grown j (t.2.2.2).size (fun k h=>by have:=sI h;omega)⟩ (fun t=>?_))
   clear i K;try simp only [pX]
   refine wpAnyH_done kM ?_ _;replace A:=zH (Far.mk (t.2.2.2));replace d:=zH (t.2.2.1);clear t c r;obtain ⟨v,y⟩:=zh2 (New.mk (w0:=w5) ((SA.o.below ah.o (fun _ h=>h.2)).more (fun x U=>⟨lT ax U.1,Nat.lt_of_lt_of_le U.2 ah.o.size⟩))) (New.mk (w0:=w5) (SB.o.more (fun x U=>⟨lT (lT ax (show w5.heap.size≤wa.heap.size from KA.o.size)) U.1,U.2⟩)));replace n:=zH (n.o.fut KB.o);clear SA SB ah KA T KB z q ad Q;replace n:=zA g n;replace v:=zA g v;replace y:=zA g y;clear g;replace n:=zA j n;replace v:=zA j v;replace y:=zA j y;clear j;clear G;go_wp2_with fail;refine wp_region_held_drew (S:=fun w'=>w'.cell? ⟨w.heap.size,3,none⟩=some (.int .i64 k)∧w'.cell? ⟨w.heap.size,4,none⟩=some (.int .i64 s)∧w'.cell? ⟨w.heap.size,5,none⟩=some (.int .i64 p)∧Blk w' w.heap.size 84 (nN 2 a b k s p out V zb W nw cw B nb cb qm qs qz rm rs rz lo hi)∧Below w w w') kM ?_ (fun t=>?_)
   ·exact ⟨d.o.drew.cell 3,d.o.drew.cell 4,d.o.drew.cell 5,d.o.drew,A.u.drew⟩
   refine kH' 0 t ?_;refine kH' 1 t ?_;refine kH' 2 t ?_;refine kH' 3 t ?_;refine kH' 4 t ?_;refine kH' 5 t ?_;refine kH' 6 t ?_;refine rH 7 rfl (fun K i=>?_)
   (rw [if_pos (by rfl)];refine oper_store_one 3 (.tmp 46) (.tmp 41) rfl N.heap.size 3 (.int .i64 k) rfl rfl rfl rfl _ (nN 2 a 0 0 0 0 0 0 0 C F D I L J 0 0 0 0 0 0 0 0) (nN 2 a 0 k 0 0 0 0 0 C F D I L J 0 0 0 0 0 0 0 0) M.drew sM kM rfl ?_;intro w8 Z H;have l:=(t.2.2.2.1).away H oM;refine i.out _ _ ⟨l.cell 3,l.cell 4,l.cell 5,l,(t.2.2.2.2).grown H (t.2.2.2.2).size (fun k h=>by have:=sI h;omega)⟩ (fun t=>?_))
   clear i K;try simp only [pX]
   refine kH' 8 t ?_;refine rH 9 rfl (fun K i=>?_)
   (rw [if_pos (by rfl)];refine oper_store_one 3 (.tmp 47) (.tmp 43) rfl N.heap.size 4 (.int .i64 s) rfl rfl rfl rfl _ (nN 2 a 0 k 0 0 0 0 0 C F D I L J 0 0 0 0 0 0 0 0) (nN 2 a 0 k s 0 0 0 0 C F D I L J 0 0 0 0 0 0 0 0) Z sM kM rfl ?_;intro w9 bs g9;have an:=(t.2.2.2.1).away g9 oM;refine i.out _ _ ⟨an.cell 3,an.cell 4,an.cell 5,an,(t.2.2.2.2).grown g9 (t.2.2.2.2).size (fun k h=>by have:=sI h;omega)⟩ (fun t=>?_))
   clear i K;try simp only [pX]
   refine kH' 10 t ?_;refine rH 11 rfl (fun K i=>?_)
   (rw [if_pos (by rfl)];refine oper_store_one 3 (.tmp 48) (.tmp 45) rfl N.heap.size 5 (.int .i64 p) rfl rfl rfl rfl _ (nN 2 a 0 k s 0 0 0 0 C F D I L J 0 0 0 0 0 0 0 0) (nN 2 a 0 k s p 0 0 0 C F D I L J 0 0 0 0 0 0 0 0) bs sM kM rfl ?_;intro bH be X;have O:=(t.2.2.2.1).away X oM;refine i.out _ _ ⟨O.cell 3,O.cell 4,O.cell 5,O,(t.2.2.2.2).grown X (t.2.2.2.2).size (fun k h=>by have:=sI h;omega)⟩ (fun t=>?_))
   clear i K;try simp only [pX]
   refine wpAnyH_done kM ?_ _;replace A:=zH (Far.mk (t.2.2.2.2));replace d:=zH (t.2.2.2.1);clear t l an O;replace n:=zH (n.o.draw);replace v:=zH (v.o.draw);replace y:=zH (y.o.draw);replace n:=zA H n;replace v:=zA H v;replace y:=zA H y;clear H;replace n:=zA g9 n;replace v:=zA g9 v;replace y:=zA g9 y;clear g9;replace n:=zA X n;replace v:=zA X v;replace y:=zA X y;clear X;clear Z;clear bs;go_wp2_with fail;go_meet
   case rel=>exact ⟨_,C,F,D,I,L,J,rfl,be,v.o,y.o,A.o,d.o,n.o⟩
  ·subst h;clear HK PM SC;go_wp2_with fail;clear R;have ax:w5.heap.size≤w5.heap.size:=lR _;have bx:N.heap.size < w5.heap.size:=Q.lt;refine wp_region_held_drew (S:=fun w'=>w'.cell? ⟨w.heap.size,6,none⟩=some (.int .i64 out)∧w'.cell? ⟨w.heap.size,9,none⟩=some (.slice W nw cw)∧w'.cell? ⟨w.heap.size,10,none⟩=some (.slice B nb cb)∧Blk w' w.heap.size 84 (nN 3 a b k s p out V zb W nw cw B nb cb qm qs qz rm rs rz lo hi)∧Below w w w') kM ?_ (fun t=>?_)
   ·exact ⟨d.o.drew.cell 6,d.o.drew.cell 9,d.o.drew.cell 10,d.o.drew,A.u.drew⟩
   refine kH' 0 t ?_;refine kH' 1 t ?_;refine kH' 2 t ?_;refine kH' 3 t ?_;refine kH' 5 t ?_;refine kH' 6 t ?_;refine kH' 8 t ?_;refine rH 4 rfl (fun K i=>?_);go_simp;refine (eV W nw cw wl _ (z.o.fut (qB _ _).drew).all oM).mono ?_;rintro e wa ⟨C,F,D,rfl,hs,T⟩;have SA:=zH hs;have KA:=zH (az (qB _ _).drew T (lR _));clear hs;refine xK i (zR T t) fun t=>?_;clear i K;refine rH 7 rfl (fun K i=>?_);go_simp;refine (fY B nb cb bl _ (q.o.fut KA.o).all oM).mono ?_;rintro e wb ⟨I,L,J,rfl,hs,T⟩;have SB:=zH hs;have ah:=zH T;have KB:=zH (az KA.o T KA.o.size);clear hs;have ad:=zH (Q.later KB.o);refine xK i (zR T t) fun t=>?_;clear i K;refine rH 9 rfl (fun K i=>?_)
   (rw [if_pos (by rfl)];refine oper_store_one 3 (.tmp 57) (.tmp 50) rfl N.heap.size 6 (.int .i64 out) rfl rfl rfl rfl _ (nN 3 a 0 0 0 0 0 0 0 none 0 0 none 0 0 0 0 0 0 0 0 0 0) (nN 3 a 0 0 0 0 out 0 0 none 0 0 none 0 0 0 0 0 0 0 0 0 0) ad.o sM kM rfl ?_;intro w6 G g;have c:=(t.2.2.2.1).away g oM;refine i.out _ _ ⟨c.cell 6,c.cell 9,c.cell 10,c,(t.2.2.2.2).grown g (t.2.2.2.2).size (fun k h=>by have:=sI h;omega)⟩ (fun t=>?_))
   clear i K;try simp only [pX]
   refine kH' 10 t ?_;refine rH 11 rfl (fun K i=>?_)
   (rw [if_pos (by rfl)];refine oper_store_one 27 (.tmp 58) (.tmp 53) rfl N.heap.size 9 (.slice C F D) rfl rfl rfl rfl _ (nN 3 a 0 0 0 0 out 0 0 none 0 0 none 0 0 0 0 0 0 0 0 0 0) (nN 3 a 0 0 0 0 out 0 0 C F D none 0 0 0 0 0 0 0 0 0 0) G sM kM rfl ?_;intro w7 M j;have r:=(t.2.2.2.1).away j oM;refine i.out _ _ ⟨r.cell 6,r.cell 9,r.cell 10,r,(t.2.2.2.2).grown j (t.2.2.2.2).size (fun k h=>by have:=sI h;omega)⟩ (fun t=>?_))
   clear i K;try simp only [pX]
   refine kH' 12 t ?_;refine rH 13 rfl (fun K i=>?_)
   (rw [if_pos (by rfl)];refine oper_store_one 42 (.tmp 59) (.tmp 56) rfl N.heap.size 10 (.slice I L J) rfl rfl rfl rfl _ (nN 3 a 0 0 0 0 out 0 0 C F D none 0 0 0 0 0 0 0 0 0 0) (nN 3 a 0 0 0 0 out 0 0 C F D I L J 0 0 0 0 0 0 0 0) M sM kM rfl ?_;intro w8 Z H;have l:=(t.2.2.2.1).away H oM;refine i.out _ _ ⟨l.cell 6,l.cell 9,l.cell 10,l,(t.2.2.2.2).grown H (t.2.2.2.2).size (fun k h=>by have:=sI h;omega)⟩ (fun t=>?_))
   clear i K;try simp only [pX]
   refine wpAnyH_done kM ?_ _;replace A:=zH (Far.mk (t.2.2.2.2));replace d:=zH (t.2.2.2.1);clear t c r l;obtain ⟨v,y⟩:=zh2 (New.mk (w0:=w5) ((SA.o.below ah.o (fun _ h=>h.2)).more (fun x U=>⟨lT ax U.1,Nat.lt_of_lt_of_le U.2 ah.o.size⟩))) (New.mk (w0:=w5) (SB.o.more (fun x U=>⟨lT (lT ax (show w5.heap.size≤wa.heap.size from KA.o.size)) U.1,U.2⟩)));replace n:=zH (n.o.fut KB.o);clear SA SB ah KA T KB z q ad Q;replace n:=zA g n;replace v:=zA g v;replace y:=zA g y;clear g;replace n:=zA j n;replace v:=zA j v;replace y:=zA j y;clear j;replace n:=zA H n;replace v:=zA H v;replace y:=zA H y;clear H;clear G;clear M;go_wp2_with fail;go_meet
   case rel=>exact ⟨_,C,F,D,I,L,J,rfl,Z,v.o,y.o,A.o,d.o,n.o⟩
  ·subst h;clear HK PM SC;go_wp2_with fail;clear R;refine wp_region_held_drew (S:=fun w'=>w'.cell? ⟨w.heap.size,3,none⟩=some (.int .i64 k)∧w'.cell? ⟨w.heap.size,4,none⟩=some (.int .i64 s)∧w'.cell? ⟨w.heap.size,5,none⟩=some (.int .i64 p)∧Blk w' w.heap.size 84 (nN 4 a b k s p out V zb W nw cw B nb cb qm qs qz rm rs rz lo hi)∧Below w w w') kM ?_ (fun t=>?_)
   ·exact ⟨d.o.drew.cell 3,d.o.drew.cell 4,d.o.drew.cell 5,d.o.drew,A.u.drew⟩
   refine kH' 0 t ?_;refine kH' 1 t ?_;refine kH' 2 t ?_;refine kH' 3 t ?_;refine kH' 4 t ?_;refine kH' 5 t ?_;refine kH' 6 t ?_;refine rH 7 rfl (fun K i=>?_)
   (rw [if_pos (by rfl)];refine oper_store_one 3 (.tmp 46) (.tmp 41) rfl N.heap.size 3 (.int .i64 k) rfl rfl rfl rfl _ (nN 4 a 0 0 0 0 0 0 0 none 0 0 none 0 0 0 0 0 0 0 0 0 0) (nN 4 a 0 k 0 0 0 0 0 none 0 0 none 0 0 0 0 0 0 0 0 0 0) Q.drew sM kM rfl ?_;intro w6 G g;have c:=(t.2.2.2.1).away g oM;refine i.out _ _ ⟨c.cell 3,c.cell 4,c.cell 5,c,(t.2.2.2.2).grown g (t.2.2.2.2).size (fun k h=>by have:=sI h;omega)⟩ (fun t=>?_))
   clear i K;try simp only [pX]
   refine kH' 8 t ?_;refine rH 9 rfl (fun K i=>?_)
   (rw [if_pos (by rfl)];refine oper_store_one 3 (.tmp 47) (.tmp 43) rfl N.heap.size 4 (.int .i64 s) rfl rfl rfl rfl _ (nN 4 a 0 k 0 0 0 0 0 none 0 0 none 0 0 0 0 0 0 0 0 0 0) (nN 4 a 0 k s 0 0 0 0 none 0 0 none 0 0 0 0 0 0 0 0 0 0) G sM kM rfl ?_;intro w7 M j;have r:=(t.2.2.2.1).away j oM;refine i.out _ _ ⟨r.cell 3,r.cell 4,r.cell 5,r,(t.2.2.2.2).grown j (t.2.2.2.2).size (fun k h=>by have:=sI h;omega)⟩ (fun t=>?_))
   clear i K;try simp only [pX]
   refine kH' 10 t ?_;refine rH 11 rfl (fun K i=>?_)
   (rw [if_pos (by rfl)];refine oper_store_one 3 (.tmp 48) (.tmp 45) rfl N.heap.size 5 (.int .i64 p) rfl rfl rfl rfl _ (nN 4 a 0 k s 0 0 0 0 none 0 0 none 0 0 0 0 0 0 0 0 0 0) (nN 4 a 0 k s p 0 0 0 none 0 0 none 0 0 0 0 0 0 0 0 0 0) M sM kM rfl ?_;intro w8 Z H;have l:=(t.2.2.2.1).away H oM;refine i.out _ _ ⟨l.cell 3,l.cell 4,l.cell 5,l,(t.2.2.2.2).grown H (t.2.2.2.2).size (fun k h=>by have:=sI h;omega)⟩ (fun t=>?_))
   clear i K;try simp only [pX]
   refine wpAnyH_done kM ?_ _;replace A:=zH (Far.mk (t.2.2.2.2));replace d:=zH (t.2.2.2.1);clear t c r l;replace z:=zH (z.o.draw);replace q:=zH (q.o.draw);replace n:=zH (n.o.draw);replace z:=zA g z;replace q:=zA g q;replace n:=zA g n;clear g;replace z:=zA j z;replace q:=zA j q;replace n:=zA j n;clear j;replace z:=zA H z;replace q:=zA H q;replace n:=zA H n;clear H;clear G;clear M;go_wp2_with fail;go_meet
   case rel=>exact ⟨_,none,0,0,none,0,0,rfl,Z,New.nil _ _ _,New.nil _ _ _,A.o,d.o,n.o⟩
  ·subst h;clear HK PM SC;go_wp2_with fail;clear R;refine wp_region_held_drew (S:=fun w'=>w'.cell? ⟨w.heap.size,3,none⟩=some (.int .i64 k)∧w'.cell? ⟨w.heap.size,4,none⟩=some (.int .i64 s)∧w'.cell? ⟨w.heap.size,5,none⟩=some (.int .i64 p)∧Blk w' w.heap.size 84 (nN 5 a b k s p out V zb W nw cw B nb cb qm qs qz rm rs rz lo hi)∧Below w w w') kM ?_ (fun t=>?_)
   ·exact ⟨d.o.drew.cell 3,d.o.drew.cell 4,d.o.drew.cell 5,d.o.drew,A.u.drew⟩
   refine kH' 0 t ?_;refine kH' 1 t ?_;refine kH' 2 t ?_;refine kH' 3 t ?_;refine kH' 4 t ?_;refine kH' 5 t ?_;refine kH' 6 t ?_;refine rH 7 rfl (fun K i=>?_)
   (rw [if_pos (by rfl)];refine oper_store_one 3 (.tmp 46) (.tmp 41) rfl N.heap.size 3 (.int .i64 k) rfl rfl rfl rfl _ (nN 5 a 0 0 0 0 0 0 0 none 0 0 none 0 0 0 0 0 0 0 0 0 0) (nN 5 a 0 k 0 0 0 0 0 none 0 0 none 0 0 0 0 0 0 0 0 0 0) Q.drew sM kM rfl ?_;intro w6 G g;have c:=(t.2.2.2.1).away g oM;refine i.out _ _ ⟨c.cell 3,c.cell 4,c.cell 5,c,(t.2.2.2.2).grown g (t.2.2.2.2).size (fun k h=>by have:=sI h;omega)⟩ (fun t=>?_))
   clear i K;try simp only [pX]
   refine kH' 8 t ?_;refine rH 9 rfl (fun K i=>?_)
   (rw [if_pos (by rfl)];refine oper_store_one 3 (.tmp 47) (.tmp 43) rfl N.heap.size 4 (.int .i64 s) rfl rfl rfl rfl _ (nN 5 a 0 k 0 0 0 0 0 none 0 0 none 0 0 0 0 0 0 0 0 0 0) (nN 5 a 0 k s 0 0 0 0 none 0 0 none 0 0 0 0 0 0 0 0 0 0) G sM kM rfl ?_;intro w7 M j;have r:=(t.2.2.2.1).away j oM;refine i.out _ _ ⟨r.cell 3,r.cell 4,r.cell 5,r,(t.2.2.2.2).grown j (t.2.2.2.2).size (fun k h=>by have:=sI h;omega)⟩ (fun t=>?_))
   clear i K;try simp only [pX]
   refine kH' 10 t ?_;refine rH 11 rfl (fun K i=>?_)
   (rw [if_pos (by rfl)];refine oper_store_one 3 (.tmp 48) (.tmp 45) rfl N.heap.size 5 (.int .i64 p) rfl rfl rfl rfl _ (nN 5 a 0 k s 0 0 0 0 none 0 0 none 0 0 0 0 0 0 0 0 0 0) (nN 5 a 0 k s p 0 0 0 none 0 0 none 0 0 0 0 0 0 0 0 0 0) M sM kM rfl ?_;intro w8 Z H;have l:=(t.2.2.2.1).away H oM;refine i.out _ _ ⟨l.cell 3,l.cell 4,l.cell 5,l,(t.2.2.2.2).grown H (t.2.2.2.2).size (fun k h=>by have:=sI h;omega)⟩ (fun t=>?_))
   clear i K;try simp only [pX]
   refine wpAnyH_done kM ?_ _;replace A:=zH (Far.mk (t.2.2.2.2));replace d:=zH (t.2.2.2.1);clear t c r l;replace z:=zH (z.o.draw);replace q:=zH (q.o.draw);replace n:=zH (n.o.draw);replace z:=zA g z;replace q:=zA g q;replace n:=zA g n;clear g;replace z:=zA j z;replace q:=zA j q;replace n:=zA j n;clear j;replace z:=zA H z;replace q:=zA H q;replace n:=zA H n;clear H;clear G;clear M;go_wp2_with fail;go_meet
   case rel=>exact ⟨_,none,0,0,none,0,0,rfl,Z,New.nil _ _ _,New.nil _ _ _,A.o,d.o,n.o⟩
  ·subst h;clear HK PM SC;go_wp2_with fail;clear R;refine wp_region_held_drew (S:=fun w'=>w'.cell? ⟨w.heap.size,2,none⟩=some (.int .i64 b)∧w'.cell? ⟨w.heap.size,8,none⟩=some (.int .i8 zb)∧w'.cell? ⟨w.heap.size,14,none⟩=some (.int .i32 rm)∧w'.cell? ⟨w.heap.size,15,none⟩=some (.int .i64 rs)∧Blk w' w.heap.size 84 (nN 6 a b k s p out V zb W nw cw B nb cb qm qs qz rm rs rz lo hi)∧Below w w w') kM ?_ (fun t=>?_)
   ·exact ⟨d.o.drew.cell 2,d.o.drew.cell 8,d.o.drew.cell 14,d.o.drew.cell 15,d.o.drew,A.u.drew⟩
   refine kH' 0 t ?_;refine kH' 1 t ?_;refine kH' 2 t ?_;refine kH' 3 t ?_;refine kH' 4 t ?_;refine kH' 5 t ?_;refine kH' 6 t ?_;refine kH' 7 t ?_;refine kH' 8 t ?_;refine kH' 9 t ?_;refine kH' 10 t ?_;refine kH' 11 t ?_;refine rH 12 rfl (fun K i=>?_)
   (rw [if_pos (by rfl)];refine oper_store_one 3 (.tmp 71) (.tmp 61) rfl N.heap.size 2 (.int .i64 b) rfl rfl rfl rfl _ (nN 6 a 0 0 0 0 0 0 0 none 0 0 none 0 0 0 0 0 0 0 0 0 0) (nN 6 a b 0 0 0 0 0 0 none 0 0 none 0 0 0 0 0 0 0 0 0 0) Q.drew sM kM rfl ?_;intro w6 G g;have c:=(t.2.2.2.2.1).away g oM;refine i.out _ _ ⟨c.cell 2,c.cell 8,c.cell 14,c.cell 15,c,(t.2.2.2.2.2).grown g (t.2.2.2.2.2).size (fun k h=>by have:=sI h;omega)⟩ (fun t=>?_))
   clear i K;try simp only [pX]
   refine kH' 13 t ?_;refine rH 14 rfl (fun K i=>?_)
   (rw [if_pos (by rfl)];refine oper_store_one 80 (.tmp 72) (.tmp 63) rfl N.heap.size 8 (.int .i8 zb) rfl rfl rfl rfl _ (nN 6 a b 0 0 0 0 0 0 none 0 0 none 0 0 0 0 0 0 0 0 0 0) (nN 6 a b 0 0 0 0 0 zb none 0 0 none 0 0 0 0 0 0 0 0 0 0) G sM kM rfl ?_;intro w7 M j;have r:=(t.2.2.2.2.1).away j oM;refine i.out _ _ ⟨r.cell 2,r.cell 8,r.cell 14,r.cell 15,r,(t.2.2.2.2.2).grown j (t.2.2.2.2.2).size (fun k h=>by have:=sI h;omega)⟩ (fun t=>?_))
   clear i K;try simp only [pX]
   refine kH' 15 t ?_;refine rH 16 rfl (fun K i=>?_)
   (rw [if_pos (by rfl)];refine oper_store_blk 82 (.tmp 73) (.tmp 70) rfl N.heap.size 14 #[.int .i32 rm,.int .i64 rs,.int .i8 0] rfl rfl _ (nN 6 a b 0 0 0 0 0 zb none 0 0 none 0 0 0 0 0 0 0 0 0 0) (nN 6 a b 0 0 0 0 0 zb none 0 0 none 0 0 0 0 0 rm rs 0 0 0) M sM kM (by simp [Value.oneCell']) rfl ?_;intro w8 Z H;have l:=(t.2.2.2.2.1).away H oM;refine i.out _ _ ⟨l.cell 2,l.cell 8,l.cell 14,l.cell 15,l,(t.2.2.2.2.2).grown H (t.2.2.2.2.2).size (fun k h=>by have:=sI h;omega)⟩ (fun t=>?_))
   clear i K;try simp only [pX]
   refine wpAnyH_done kM ?_ _;replace A:=zH (Far.mk (t.2.2.2.2.2));replace d:=zH (t.2.2.2.2.1);clear t c r l;replace z:=zH (z.o.draw);replace q:=zH (q.o.draw);replace n:=zH (n.o.draw);replace z:=zA g z;replace q:=zA g q;replace n:=zA g n;clear g;replace z:=zA j z;replace q:=zA j q;replace n:=zA j n;clear j;replace z:=zA H z;replace q:=zA H q;replace n:=zA H n;clear H;clear G;clear M;go_wp2_with fail;go_meet
   case rel=>exact ⟨_,none,0,0,none,0,0,rfl,Z,New.nil _ _ _,New.nil _ _ _,A.o,d.o,n.o⟩
  ·subst h;clear HK PM SC;go_wp2_with fail;go_meet
   case rel=>exact ⟨_,none,0,0,none,0,0,rfl,Q,New.nil _ _ _,New.nil _ _ _,A.o,d.o,n.o⟩
  ·subst h;clear HK PM SC;go_wp2_with fail;clear R;refine wp_region_held_drew (S:=fun w'=>w'.cell? ⟨w.heap.size,5,none⟩=some (.int .i64 p)∧w'.cell? ⟨w.heap.size,7,none⟩=some (.int .i8 V)∧Blk w' w.heap.size 84 (nN 8 a b k s p out V zb W nw cw B nb cb qm qs qz rm rs rz lo hi)∧Below w w w') kM ?_ (fun t=>?_)
   ·exact ⟨d.o.drew.cell 5,d.o.drew.cell 7,d.o.drew,A.u.drew⟩
   refine kH' 0 t ?_;refine kH' 1 t ?_;refine kH' 2 t ?_;refine kH' 3 t ?_;refine kH' 4 t ?_;refine rH 5 rfl (fun K i=>?_)
   (rw [if_pos (by rfl)];refine oper_store_one 3 (.tmp 78) (.tmp 75) rfl N.heap.size 5 (.int .i64 p) rfl rfl rfl rfl _ (nN 8 a 0 0 0 0 0 0 0 none 0 0 none 0 0 0 0 0 0 0 0 0 0) (nN 8 a 0 0 0 p 0 0 0 none 0 0 none 0 0 0 0 0 0 0 0 0 0) Q.drew sM kM rfl ?_;intro w6 G g;have c:=(t.2.2.1).away g oM;refine i.out _ _ ⟨c.cell 5,c.cell 7,c,(t.2.2.2).grown g (t.2.2.2).size (fun k h=>by have:=sI h;omega)⟩ (fun t=>?_))
   clear i K;try simp only [pX]
   refine kH' 6 t ?_;refine rH 7 rfl (fun K i=>?_)
   (rw [if_pos (by rfl)];refine oper_store_one 80 (.tmp 79) (.tmp 77) rfl N.heap.size 7 (.int .i8 V) rfl rfl rfl rfl _ (nN 8 a 0 0 0 p 0 0 0 none 0 0 none 0 0 0 0 0 0 0 0 0 0) (nN 8 a 0 0 0 p 0 V 0 none 0 0 none 0 0 0 0 0 0 0 0 0 0) G sM kM rfl ?_;intro w7 M j;have r:=(t.2.2.1).away j oM;refine i.out _ _ ⟨r.cell 5,r.cell 7,r,(t.2.2.2).grown j (t.2.2.2).size (fun k h=>by have:=sI h;omega)⟩ (fun t=>?_))
   clear i K;try simp only [pX]
   refine wpAnyH_done kM ?_ _;replace A:=zH (Far.mk (t.2.2.2));replace d:=zH (t.2.2.1);clear t c r;replace z:=zH (z.o.draw);replace q:=zH (q.o.draw);replace n:=zH (n.o.draw);replace z:=zA g z;replace q:=zA g q;replace n:=zA g n;clear g;replace z:=zA j z;replace q:=zA j q;replace n:=zA j n;clear j;clear G;go_wp2_with fail;go_meet
   case rel=>exact ⟨_,none,0,0,none,0,0,rfl,M,New.nil _ _ _,New.nil _ _ _,A.o,d.o,n.o⟩
  ·subst h;clear HK PM SC;go_wp2_with fail;go_meet
   case rel=>exact ⟨_,none,0,0,none,0,0,rfl,Q,New.nil _ _ _,New.nil _ _ _,A.o,d.o,n.o⟩
 case rest =>
 obtain ⟨m,C,F,D,I,L,J,hm,hM,bb,bp,hf,hn,hr⟩:=hcut;rw [hm] at PM;obtain ⟨bw,v,y⟩:=zh3 hM bb bp;replace A:=zH hf;replace d:=zH hn;replace n:=zH hr;clear hm hM bb bp hf hn hr z q Q R;obtain ⟨wd,bD⟩:∃ x,x=wc:=⟨_,rfl⟩;subst bD;have R:=d.o.cell 0;obtain ⟨sc,bg⟩:∃ x,aG f=x:=⟨_,rfl⟩;simp only [bg] at SC PM;have g5:w1.heap.size < w5.heap.size:=oM;clear bg;cases sc with
 | false =>
  have E:=zH (PM.o.trans (if_neg dM))
  go_wp2_with (first
   | (go_at_call 137;refine (SC.o _).mono ?_;rintro e w' ⟨rfl,rfl⟩)
   | (refine lG bw.o ?_)
   | (refine sG (nD m C F D I L J) n.o ?_;intro wz BZ gz))
  replace A:=zH (A.o.away gz (by have:=bz.out;omega));replace v:=zA gz v;replace y:=zA gz y;refine ret_cell rfl BZ rfl underlying84 kM rfl ?_;rw [E.o];exact ⟨C,F,D,I,L,J,rfl,v.o.out.more (fun x U=>⟨by have:=U.1;omega,U.2⟩),y.o.out.more (fun x U=>⟨by have:=U.1;omega,U.2⟩),A.u⟩
 | true =>
  have E:=zH (PM.o.trans (if_pos rfl))
  go_wp2_with (go_at_call 137;refine (SC.o _).mono ?_;rintro e w' ⟨rfl,rfl⟩)
  clear R;refine wp_region_held_drew (S:=fun w'=>w'.cell? ⟨w.heap.size,7,none⟩=some (.int .i8 V)∧w'.cell? ⟨w.heap.size,17,none⟩=some (.int .i8 lo)∧w'.cell? ⟨w.heap.size,18,none⟩=some (.int .i8 hi)∧Blk w' w.heap.size 84 (nN f a b k s p out V zb W nw cw B nb cb qm qs qz rm rs rz lo hi)∧Below w w w') kM ?_ (fun t=>?_)
  ·exact ⟨d.o.drew.cell 7,d.o.drew.cell 17,d.o.drew.cell 18,d.o.drew,A.u.drew⟩
  refine kH' 0 t ?_;refine kH' 1 t ?_;refine kH' 2 t ?_;refine tkH 3 rfl (yP #[.int .i32 qm,.int .i64 qs,.int .i8 qz] (fun w hs=>hs.2.2.2.1)) t ?_;try simp only [pX]
  refine kH' 4 t ?_;refine kH' 5 t ?_;refine kH' 6 t ?_;refine kH' 7 t ?_;refine kH' 8 t ?_;refine rH 9 rfl (fun K i=>?_)
  (rw [if_pos (by rfl)];refine oper_store_one 80 (.tmp 91) (.tmp 84) rfl N.heap.size 7 (.int .i8 V) rfl rfl rfl rfl _ (nD m C F D I L J) (nN m.kind m.a m.b m.k m.s m.p m.out V m.zb C F D I L J m.qm m.qs m.qz m.rm m.rs m.rz m.lo m.hi) bw.o.drew sM kM rfl ?_;intro bM bt Y;have P:=(t.2.2.2.1).away Y oM;refine i.out _ _ ⟨P.cell 7,P.cell 17,P.cell 18,P,(t.2.2.2.2).grown Y (t.2.2.2.2).size (fun k h=>by have:=sI h;omega)⟩ (fun t=>?_))
  clear i K;try simp only [pX]
  refine kH' 10 t ?_;refine rH 11 rfl (fun K i=>?_)
  (rw [if_pos (by rfl)];refine oper_store_blk 82 (.tmp 92) (.tmp 86) rfl N.heap.size 11 #[.int .i32 qm,.int .i64 qs,.int .i8 qz] rfl rfl _ (nN m.kind m.a m.b m.k m.s m.p m.out V m.zb C F D I L J m.qm m.qs m.qz m.rm m.rs m.rz m.lo m.hi) (nN m.kind m.a m.b m.k m.s m.p m.out V m.zb C F D I L J qm qs qz m.rm m.rs m.rz m.lo m.hi) bt sM kM (by simp [Value.oneCell']) rfl ?_;intro bR bh ba;have al:=(t.2.2.2.1).away ba oM;refine i.out _ _ ⟨al.cell 7,al.cell 17,al.cell 18,al,(t.2.2.2.2).grown ba (t.2.2.2.2).size (fun k h=>by have:=sI h;omega)⟩ (fun t=>?_))
  clear i K;try simp only [pX]
  refine kH' 12 t ?_;refine rH 13 rfl (fun K i=>?_)
  (rw [if_pos (by rfl)];refine oper_store_one 80 (.tmp 93) (.tmp 88) rfl N.heap.size 17 (.int .i8 lo) rfl rfl rfl rfl _ (nN m.kind m.a m.b m.k m.s m.p m.out V m.zb C F D I L J qm qs qz m.rm m.rs m.rz m.lo m.hi) (nN m.kind m.a m.b m.k m.s m.p m.out V m.zb C F D I L J qm qs qz m.rm m.rs m.rz lo m.hi) bh sM kM rfl ?_;intro bT br bo;have ac:=(t.2.2.2.1).away bo oM;refine i.out _ _ ⟨ac.cell 7,ac.cell 17,ac.cell 18,ac,(t.2.2.2.2).grown bo (t.2.2.2.2).size (fun k h=>by have:=sI h;omega)⟩ (fun t=>?_))
  clear i K;try simp only [pX]
  refine kH' 14 t ?_;refine rH 15 rfl (fun K i=>?_)
  (rw [if_pos (by rfl)];refine oper_store_one 80 (.tmp 94) (.tmp 90) rfl N.heap.size 18 (.int .i8 hi) rfl rfl rfl rfl _ (nN m.kind m.a m.b m.k m.s m.p m.out V m.zb C F D I L J qm qs qz m.rm m.rs m.rz lo m.hi) (nN m.kind m.a m.b m.k m.s m.p m.out V m.zb C F D I L J qm qs qz m.rm m.rs m.rz lo hi) br sM kM rfl ?_;intro bW bc bn;have ay:=(t.2.2.2.1).away bn oM;refine i.out _ _ ⟨ay.cell 7,ay.cell 17,ay.cell 18,ay,(t.2.2.2.2).grown bn (t.2.2.2.2).size (fun k h=>by have:=sI h;omega)⟩ (fun t=>?_))
  clear i K;try simp only [pX]
  refine wpAnyH_done kM ?_ _;replace A:=zH (Far.mk (t.2.2.2.2));replace n:=zH (n.o.draw);replace v:=zH (v.o.draw);replace y:=zH (y.o.draw);replace n:=zA Y n;replace v:=zA Y v;replace y:=zA Y y;replace n:=zA ba n;replace v:=zA ba v;replace y:=zA ba y;replace n:=zA bo n;replace v:=zA bo v;replace y:=zA bo y;replace n:=zA bn n;replace v:=zA bn v;replace y:=zA bn y;clear t P Y al ba ac bo ay bn bt bh br
  go_wp2_with (first
   | (refine lG bc ?_)
   | (refine sG (nN m.kind m.a m.b m.k m.s m.p m.out V m.zb C F D I L J qm qs qz m.rm m.rs m.rz lo hi) n.o ?_;intro wz BZ gz))
  replace A:=zH (A.o.away gz (by have:=bz.out;omega));replace v:=zA gz v;replace y:=zA gz y;refine ret_cell rfl BZ rfl underlying84 kM rfl ?_;rw [E.o];exact ⟨C,F,D,I,L,J,rfl,v.o.out.more (fun x U=>⟨by have:=U.1;omega,U.2⟩),y.o.out.more (fun x U=>⟨by have:=U.1;omega,U.2⟩),A.u⟩
open Fx
theorem mnI (x y:Int):(if y < x then y else x)=min x y:=by split <;> omega
theorem mxI (x y:Int):(if x < y then y else x)=max x y:=by split <;> omega
def ofR (a:Int) (l:List Int):Int × Int:=l.foldl (fun r v=>(min r.1 v,max r.2 v)) (a,a)
theorem nX (a:Int) (l:List Int) (v:Int):ofR a (l ++ [v])=(min (ofR a l).1 v,max (ofR a l).2 v):=by unfold ofR;rw [List.foldl_append];rfl
def iA (lo hi z:Int) (gaps:Bool) (v:Int):Int × Int :=
 if gaps=true then (min (min (v*(lo - z)) (v*(hi - z))) 0,max (max (v*(lo - z)) (v*(hi - z))) 0) else (min (v*(lo - z)) (v*(hi - z)),max (v*(lo - z)) (v*(hi - z)))
def aL (b lo hi z:Int) (gaps:Bool) (l:List Int):Int × Int:=l.foldl (fun r v=>(r.1+(iA lo hi z gaps v).1,r.2+(iA lo hi z gaps v).2)) (b,b)
theorem mf (b lo hi z:Int) (gaps:Bool) (l:List Int) (v:Int):aL b lo hi z gaps (l ++ [v])=((aL b lo hi z gaps l).1+(iA lo hi z gaps v).1,(aL b lo hi z gaps l).2+(iA lo hi z gaps v).2):=by
 unfold aL;rw [List.foldl_append];rfl
theorem jp {v x z:Int} (e:InK .i8 v) (t:InK .i8 x) (a:InK .i8 z):(v*(x - z)).natAbs≤32640:=by
 rw [bj] at e t a;exact lT (natAbs_mul_le (m:=128) (n:=255) oM oM) dM
theorem vS {lo hi z v:Int} (gaps:Bool) (t:InK .i8 lo) (e:InK .i8 hi) (o:InK .i8 z) (a:InK .i8 v) :
  (iA lo hi z gaps v).1.natAbs≤32640∧(iA lo hi z gaps v).2.natAbs≤32640∧(iA lo hi z gaps v).1≤(iA lo hi z gaps v).2:=by
 have i:=jp a t o;have n:=jp a e o;unfold iA;split <;> simp only <;> omega
theorem qv {b lo hi z:Int} {gaps:Bool} {l:List Int} (o:InK .i8 lo) (t:InK .i8 hi) (m:InK .i8 z) (s:∀ i,InK .i8 (l.getD i 0)) (n:InK .i32 b):∀ k,k≤l.length →
  (aL b lo hi z gaps (l.take k)).1.natAbs≤2147483648+32640*k∧(aL b lo hi z gaps (l.take k)).2.natAbs≤2147483648+32640*k∧(aL b lo hi z gaps (l.take k)).1≤(aL b lo hi z gaps (l.take k)).2:=by
 intro k
 induction k with
 | zero=>intro _;rw [cE] at n;simp only [List.take_zero];show b.natAbs≤_∧b.natAbs≤_∧b≤b;omega
 | succ k ih =>
  intro h;have r:l[k]?=some (l.getD k 0):=by rw [gD,List.getElem?_eq_getElem oM];rfl
  rw [bG l k _ r,mf];obtain ⟨a,b,c⟩:=ih oM;obtain ⟨d,e,f⟩:=vS (v:=l.getD k 0) gaps o t m (s k);simp only;omega
theorem Ce {b lo hi z:Int} {gaps:Bool} {l:List Int} (t:InK .i8 lo) (e:InK .i8 hi) (n:InK .i8 z) (o:∀ i,InK .i8 (l.getD i 0)) (a:InK .i32 b) :
  (aL b lo hi z gaps l).1.natAbs≤2147483648+32640*l.length∧(aL b lo hi z gaps l).2.natAbs≤2147483648+32640*l.length∧(aL b lo hi z gaps l).1≤(aL b lo hi z gaps l).2:=by
 have h:=qv (gaps:=gaps) t e n o a l.length (lR _);rwa [List.take_length] at h
def fw (w:List Int) (each o:Nat):List Int:=(w.drop (o*each)).take each
def eU (w bias:List Int) (lo hi z:Int) (gaps:Bool):List (Int × Int) :=
 if bias.length=0 ∨ ¬ w.length % bias.length=0 then [] else (List.range bias.length).map fun o=>aL (bias.getD o 0) lo hi z gaps (fw w (w.length / bias.length) o)
def dc (l:List (Int × Int)):Bool:=l.all fun r=>decide (-2147483648≤r.1) && decide (r.2≤2147483647)
def eK (l:List (Int × Int)) (a:Int × Int):Int × Int:=l.foldl (fun o r=>(min o.1 r.1,max o.2 r.2)) a
def ey (l:List (Int × Int)):Int × Int:=eK l (l.getD 0 (0,0))
theorem oK (l:List (Int × Int)) (a r:Int × Int):eK (l ++ [r]) a=(min (eK l a).1 r.1,max (eK l a).2 r.2):=by unfold eK;rw [List.foldl_append];rfl
theorem vd (l:List (Int × Int)) (r:Int × Int):dc (l ++ [r])=(dc l && (decide (-2147483648≤r.1) && decide (r.2≤2147483647))):=by unfold dc;simp
theorem oZ:∀ (l:List (Int × Int)) (a:Int × Int),(-2147483648≤(eK l a).1∧(eK l a).2≤2147483647) ↔ dc l=true∧-2147483648≤a.1∧a.2≤2147483647
 | [],a=>by show (-2147483648≤a.1∧a.2≤2147483647) ↔ true=true∧_;simp
 | r :: l,a=>by
  show (-2147483648≤(eK l (min a.1 r.1,max a.2 r.2)).1∧(eK l (min a.1 r.1,max a.2 r.2)).2≤2147483647) ↔ _;rw [oZ l];unfold dc;simp only [List.all_cons,Bool.and_eq_true,decide_eq_true_eq];constructor
  ·rintro ⟨e,o,t⟩;exact ⟨⟨⟨by omega,by omega⟩,e⟩,by omega,by omega⟩
  ·rintro ⟨⟨⟨e,o⟩,t⟩,i,n⟩;exact ⟨t,by omega,by omega⟩
theorem vc (l:List (Int × Int)):dc l=(decide (-2147483648≤(ey l).1) && decide ((ey l).2≤2147483647)):=by
 rw [Bool.eq_iff_iff,Bool.and_eq_true,decide_eq_true_eq,decide_eq_true_eq];unfold ey;rw [oZ];constructor
 ·intro h;refine ⟨h,?_⟩;cases l with
  | nil=>exact ⟨by decide,by decide⟩
  | cons r l =>
   unfold dc at h;simp only [List.all_cons,Bool.and_eq_true,decide_eq_true_eq] at h;exact h.1
 ·exact fun h=>h.1
theorem uh {w:List Int} {nb o:Nat} (h:w.length % nb=0) (a:o < nb):(fw w (w.length / nb) o).length=w.length / nb∧o*(w.length / nb)+w.length / nb≤w.length:=by
 have e:nb*(w.length / nb)=w.length:=Nat.mul_div_cancel' (Nat.dvd_of_mod_eq_zero h);have t:(o+1)*(w.length / nb)≤nb*(w.length / nb):=Nat.mul_le_mul_right _ a;rw [Nat.succ_mul] at t;refine ⟨?_,by omega⟩;unfold fw;rw [List.length_take,List.length_drop];omega
theorem grT {w o i:World} {r:Option Nat} (h:w.grownBy o r) (e:o.grownBy i r):w.grownBy i r :=
 ⟨e.os.trans h.os,e.tape.trans h.tape,e.output.trans h.output,lT h.size e.size,fun k a t=>(e.block k (Nat.lt_of_lt_of_le a h.size) t).trans (h.block k a t)⟩
theorem grS (w:World) (r:Option Nat):w.grownBy w r:=⟨rfl,rfl,rfl,lR _,fun _ _ _=>rfl⟩
theorem grO {w w':World} {r:Option Nat} (h:Below w w w'):w.grownBy w' r:=⟨h.os,h.tape,h.output,h.size,fun k e _=>h.block k e⟩
open Go
theorem bU {P:Program} {ops:Array Oper} {e:List Oper} {o:Oper} {a:Act} {w:World} {Q:Exit → Act → World → Prop} (c:Region.wanted o (yielded ops a.tmps)=true) (t:TypeId) (x:Operand) (r:o.op=.load t x)
  (b off:Nat) (m:a.eval x=.pointer (some ⟨b,off,none⟩)) (cs:List Value) (d:TypeDesc) (i:w.rangeAt b off cs)
  (l:P.underlying t=some d) (s:d.isRow=true) (hi:(P.info? t).map (·.size)=some cs.length) (h:wpList P ops Q e (a.put o.dst (.agg cs.toArray)) w):wpList P ops Q (o :: e) a w:=by
 refine BigFrame.wpList_want c fun K n=>?_;unfold Oper.wp execOp;simp only [r,m,Instr.loadAt,Instr.sureAddr,Sem.run_bind,Sem.run_pure,Result.andThen_ok,run_loadVar_mid w b off t cs d i l s hi];exact n _ _ h
section
variable {P:Program} {ops:Array Oper} {rest:List Oper} {o:Oper} {a:Act} {w:World} {Q:Exit → Act → World → Prop} {T E:TypeId} {z:Value} {size bytes:Nat}
theorem rW {w w':World} {b off:Nat} {cs:List Value} (h:w.rangeAt b off cs) (t:Below w w w'):w'.rangeAt b off cs:=fun j v e=>(t.cell (World.block_lt_of_cell? w _ (h j v e))).trans (h j v e)
end
theorem wQ (t:ae) (A:QA) (n a:Nat) (d:af) (W:QA) (nw i:Nat) (B:QA) (nb cb:Nat) (w:World) (b:aw t) (f:aQ d)
  (l:xA w A n a t.data) (g:xA w W nw i d.w) (m:xB w B nb cb d.bias) (j:nw≤2000∧nb≤200) (y:d.k=3) (p:d.s=1) :
  Calls prog 192 #[.agg (tN t.h t.v t.c A n a),.agg (nD d W nw i B nb cb)] w (aT .i32 (cg t d).1 (cg t d).2 w):=by
 by_cases o:t.ok=true
 ·by_cases r:(bq t.h t.v t.c d).2=0
  ·exact vj t A n a d W nw i B nb cb w b f l g m j o r y p
  ·have e:cg t d=(ak,(bq t.h t.v t.c d).2):=by unfold cg;rw [if_pos o,if_neg r]
   rw [e];exact vh t A n a d W nw i B nb cb w b f l g m oM o r
 ·have e:cg t d=(ak,5):=by unfold cg;rw [if_neg o]
  rw [e];exact wR t A n a d W nw i B nb cb w b f l g m o
theorem uU (t:ae) (A:QA) (n a:Nat) (d:af) (W:QA) (nw i:Nat) (B:QA) (nb cb:Nat) (w:World) (f:aw t) (m:aQ d)
  (r:xA w A n a t.data) (y:xA w W nw i d.w) (l:xB w B nb cb d.bias) (p:nw≤2000∧nb≤200) :
  Calls prog 194 #[.agg (tN t.h t.v t.c A n a),.agg (nD d W nw i B nb cb)] w (aT .i32 (db t d).1 (db t d).2 w):=by
 by_cases o:t.ok=true
 ·by_cases s:(bF t.h t.v t.c d).2=0
  ·exact tk t A n a d W nw i B nb cb w f m r y l p o s
  ·have e:db t d=(ak,(bF t.h t.v t.c d).2):=by unfold db;rw [if_pos o,if_neg s]
   rw [e];exact tj t A n a d W nw i B nb cb w f m r y l oM o s
 ·have e:db t d=(ak,5):=by unfold db;rw [if_neg o]
  rw [e];exact uV t A n a d W nw i B nb cb w f m r y l o
end Go.Proofs.YtbecbfpoahhpnaaGreat
namespace Go.Proofs.YtbecbfpoahhpnaaGreat
open Tryz
theorem xw (H V C:Nat) (l w:List Int) (t:Int) (K S P Wo i o:Nat) (n:0 < K*K*C) :
  (bf (K*K*C) fun k=>dX H V C l t K S P Wo (i*(K*K*C)+k)*w.getD (o*(K*K*C)+k) 0)=jR H V C l t w K S P o (i / Wo) (i % Wo):=by
 unfold jR;refine eF fun k e=>?_;have a:(i*(K*K*C)+k) / (K*K*C)=i:=by rw [Nat.mul_comm,Nat.mul_add_div n,Nat.div_eq_of_lt e,Nat.add_zero]
 have md:(i*(K*K*C)+k) % (K*K*C)=k:=by rw [Nat.mul_comm,Nat.mul_add_mod,Nat.mod_eq_of_lt e]
 unfold dX;rw [a,md,Int.mul_comm]
end Go.Proofs.YtbecbfpoahhpnaaGreat
namespace Go.Proofs.YtbecbfpoahhpnaaGreat
open Go Tryz
section
variable {P:Program} {ops:Array Oper} {Q:Exit → Act → World → Prop} {l n:Nat}
def vR (ops:Array Oper):Bool:=ops.all fun o=>match o.op with|.defer _=>false|_=>true
theorem xT (o:Oper) (a:Act) (K:Act → World → Prop) (r:Result Next) (h:o.upon P a K Q r) (m:Act → World → Prop) (t:∀ a w,K a w → m a w):o.uponIn (Fence.wide.inRound l) n P a m Q r:=by
 cases r with
 | ok x w' =>
  cases x with
  | value v=>exact t _ _ h
  | skip=>exact t _ _ h
  | defer d=>exact t _ _ h
  | enter f args =>
   refine ⟨(fun h=>by cases h),CallsIn.inRound l (callsIn_wide.2 (Calls.mono h ?_))⟩;intro e i s;cases e with
   | returned v=>exact t _ _ s
   | panicked chain=>exact s
   | outgrown=>exact s
  | row row args =>
   refine ⟨(fun h=>by cases h),fun c cs _=>?_⟩;obtain ⟨v,i,y,p⟩:=h c cs;exact ⟨v,i,t _ _ y,stepsIn_wide.2 p⟩
  | _=>exact h.elim
 | halt x w' =>
  cases x with
  | panic v=>exact h
  | _=>exact h.elim
theorem iK (t:vR ops=true) (r:¬ LetsOut Q):∀ (s:List Nat) (a:Act) (w:World),wpOps P ops Q s a w → wpOpsIn (Fence.wide.inRound l) n P ops Q s a w
 | [],_,_,h=>h
 | i :: rest,a,w,h=>by
  simp only [wpOps] at h;simp only [wpOpsIn];cases m:ops[i]? with
  | none=>rw [m] at h;exact iK t r rest _ _ h
  | some o =>
   rw [m] at h;simp only at h ⊢;by_cases f:Region.wanted o (yielded ops a.tmps)=true
   ·rw [if_pos f] at h ⊢;rcases h with h|h
    ·refine ⟨fun _ _=>trivial,?_⟩;have d:∀ c,o.op ≠ .defer c:=by
      intro c e;have:=Array.all_eq_true_iff_forall_mem.1 t o (Array.mem_of_getElem? m);rw [e] at this;cases this
     show o.uponIn _ n P a _ Q ((o.semAt (some l) a.eval).run P w);rw [Oper.semAt_eq _ _ _ d];exact xT o a _ _ h _ (iK t r rest)
    ·exact absurd h.2 r
   ·rw [if_neg f] at h ⊢;exact ⟨fun _ _=>trivial,iK t r rest _ _ h⟩
theorem uL {r:Nat} {a:Act} {w:World} (C:World → Prop) (k0:Nat) (i:P.follows .mixedOrders=true) (o:vR ops=true) (s:¬ LetsOut Q) (e:C w.drew)
  (h:C w.drew → aS P .any ops Q C k0 ops.size (Array.replicate ops.size false) a w.drew):(Code.region r ops true).wpIn (Fence.wide.inRound l) n P Q a w :=
 wpIn_region_draw fun t=>iK o s _ _ _ (by
  simp only [Region.schedule,i,Bool.true_or,if_true];exact wpAny_sound ops.size t _ a _ (jm _ _ _ _ (h e)))
end
open Go.RowKit Go.ChangeShapes Go.WideShapes Fx
def oc (t:ae) (p:Nat) (z:Int):ae × Int:=if ag (t.h+2*p) (t.v+2*p) t.c=0 then (ak,5)
 else (⟨t.h+2*p,t.v+2*p,t.c,(List.range (ag (t.h+2*p) (t.v+2*p) t.c).toNat).map (Bw t.h.toNat t.v.toNat t.c.toNat t.data p z (t.v.toNat+2*p))⟩,0)
theorem vr (a:Addr) (h x p:Int) (w:World) (c:w.cell? a=some (.int .i64 p)) (t:-1000≤h∧h≤1000) (o:-1000≤x∧x≤1000) (i:-4≤p∧p≤4) :
  Calls prog 190 #[.int .i64 h,.int .i64 x,.pointer (some a)] w fun e w'=>e=.returned (.tuple #[.int .i64 (h - p),.int .i64 (x - p)])∧Below w w w':=by
 obtain ⟨n,s⟩:=t;obtain ⟨r,c4⟩:=o;obtain ⟨d,l⟩:=i;go_in;go_wp2_with fail;go_quiet (fail);go_wp2_with fail
 go_ret2
 exact ⟨rfl,aI (qB _ _) _⟩
end Go.Proofs.YtbecbfpoahhpnaaGreat
