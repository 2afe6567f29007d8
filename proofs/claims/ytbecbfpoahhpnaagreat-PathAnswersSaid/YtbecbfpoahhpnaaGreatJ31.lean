/- Windows as rows (layer 12): patch.over where the places are right. -/
import Derived.Test.YtbecbfpoahhpnaaGreatJ26
set_option linter.unusedVariables false
set_option linter.unusedSimpArgs false
set_option maxRecDepth 100000
set_option maxHeartbeats 16000000
namespace Go.Proofs.YtbecbfpoahhpnaaGreat
open Go.RowKit Go.ChangeShapes Go.WideShapes Fx Tryz
theorem zY {H V C:Nat} {d:af} {o:Int} {Ho Wo Co:Nat} (h:aH H V C d.k d.s d.p o=(((Ho:Int),(Wo:Int),(Co:Int)),0)):aH H V C d.k d.s d.p 1=(((Ho:Int),(Wo:Int),1),0):=by
 obtain ⟨K,S,P,i,n,f,t,v,g,j,q,-⟩:=jY h;obtain rfl:Ho=i:=oM;obtain rfl:Wo=n:=oM;unfold aH at h ⊢;by_cases c:ag H V C=0
 ·rw [if_pos c] at h;cases (Prod.mk.inj h).2
 rw [if_neg c] at h ⊢;by_cases r:(aK H d.k d.s d.p).2 ≠ 0
 ·rw [if_pos r] at h;exact absurd (Prod.mk.inj h).2 r
 rw [if_neg r] at h ⊢;by_cases l:(aK V d.k d.s d.p).2 ≠ 0
 ·rw [if_pos l] at h;exact absurd (Prod.mk.inj h).2 l
 rw [if_neg l] at h ⊢;by_cases c4:ag (aK H d.k d.s d.p).1 (aK V d.k d.s d.p).1 o=0
 ·rw [if_pos c4] at h;cases (Prod.mk.inj h).2
 rw [if_neg c4] at h;have m:=(Prod.mk.inj h).1;have w:=(Prod.mk.inj m).1;have y:=(Prod.mk.inj (Prod.mk.inj m).2).1;rw [w,y];have e:ag (Ho:Int) (Wo:Int) 1=((Ho*Wo:Nat):Int):=by
  have a:=t.ho1;have b:=t.wo1;have:Ho*Wo≤256:=Nat.mul_le_mul a.2 b.2;rw [cO,if_pos ⟨by omega,by omega,by omega,by omega,by omega,by omega,by rw [Int.mul_one,← Int.natCast_mul];omega⟩,Int.mul_one,← Int.natCast_mul]
 have x:0 < Ho*Wo:=Nat.mul_pos (by have:=t.ho1;omega) (by have:=t.wo1;omega);rw [e,if_neg oM]
theorem Bv (H V C:Nat) (d:af) (W:QA) (nw m:Nat) (B:QA) (nb cb:Nat) (Ho Wo:Nat) (w:World) (J:H≤16) (N:V≤16) (I:C≤1024) (j:aH H V C d.k d.s d.p 1=(((Ho:Int),(Wo:Int),1),0)) :
  Calls prog 241 #[.agg (sN H V C),.agg (nD d W nw m B nb cb)] w fun e w'=>e=.returned (.tuple #[.agg #[.int .i64 H,.int .i64 V,.int .i64 C,.int .i64 d.kind,.int .i64 d.a,.int .i64 d.b,.int .i64 d.k,.int .i64 d.s,.int .i64 d.p,.int .i64 d.out,.int .i8 d.za,.int .i8 d.zb,.slice W nw m,.slice B nb cb,.int .i32 d.qm,.int .i64 d.qs,.int .i8 d.qz,.int .i32 d.rm,.int .i64 d.rs,.int .i8 d.rz,.int .i8 d.lo,.int .i8 d.hi,.int .i64 Ho,.int .i64 Wo,.int .i64 1],.int .i64 0])∧Below w w w':=by
 have f:=zH (fun w=>fG (H:Int) V C d.k d.s d.p 1 w (by rw [ai];omega) (by rw [ai];omega) (by rw [ai];omega) dM);rw [j] at f;simp only [aY] at f;have t:=zW w;obtain ⟨O,P,Q,y,v,g,K,L,_,r,i,h,l⟩:=bk3 w (sN H V C) 23 (nD d W nw m B nb cb) 84 #[.int .i64 0,.int .i64 0,.int .i64 0,.int .i64 0,.int .i64 0,.int .i64 0,.int .i64 0,.int .i64 0,.int .i64 0,.int .i64 0,.int .i8 0,.int .i8 0,.slice none 0 0,.slice none 0 0,.int .i32 0,.int .i64 0,.int .i8 0,.int .i32 0,.int .i64 0,.int .i8 0,.int .i8 0,.int .i8 0,.int .i64 0,.int .i64 0,.int .i64 0] 349;replace t:=zF l t;clear l;obtain ⟨q,z,A⟩:=uc3 i 3 4 5;simp only [gX] at q z A;clear j;go_in
 go_wp2_with (first|(refine lG r.o ?_)|(go_at_call 142;refine qM (f.o _) fun w4 n=>?_;obtain ⟨t,r,i,h⟩:=uz4 n t r i h;have M:=n.size;clear n q z A y v g;obtain ⟨D,c⟩:∃ x,w4.alloc (.cells (sN Ho Wo 1) 23)=x:=⟨_,rfl⟩;have n:Below w4 w4 D:=(by rw [← c];exact (qB _ _).alloc (lR _) _);have F:=zH (show Blk D w4.heap.size 23 (sN Ho Wo 1) by rw [← c];exact Blk.now _ _ _ _ rfl);obtain ⟨t,r,i,h⟩:=uz4 n t r i h;clear n)|(refine lG i.o ?_)|(refine lG F.o ?_)|(refine sG #[.int .i64 H,.int .i64 V,.int .i64 C,.int .i64 d.kind,.int .i64 d.a,.int .i64 d.b,.int .i64 d.k,.int .i64 d.s,.int .i64 d.p,.int .i64 d.out,.int .i8 d.za,.int .i8 d.zb,.slice W nw m,.slice B nb cb,.int .i32 d.qm,.int .i64 d.qs,.int .i8 d.qz,.int .i32 d.rm,.int .i64 d.rs,.int .i8 d.rz,.int .i8 d.lo,.int .i8 d.hi,.int .i64 Ho,.int .i64 Wo,.int .i64 1] h.o ?_;intro R E G))
 refine ret_cell_tmp rfl E rfl underlying349 (by show _=some 25;kernel_rfl) rfl ?_;exact ⟨rfl,(t.o.away G oM).out⟩
theorem vv (t:ae) (H V C:Nat) (A:QA) (n G:Nat) (d:af) (W:QA) (nw Z:Nat) (B:QA) (nb cb:Nat) (Ho Wo Co K S P M z N:Nat) (w:World)
  (ha:xA w A n G t.data) (m:TOk t n H V C) (f:WOk d H V C K S P Ho Wo Co) (hz:InK .i8 d.za) (hs:aH H V C d.k d.s d.p 1=(((Ho:Int),(Wo:Int),1),0)) (hM:Ho*Wo=M) (O:K*K*C=z) (hN:M*z=N) :
  Calls prog 221 #[.agg (tN H V C A n G),.agg (nD d W nw Z B nb cb)] w fun e w'=>∃ Q c,e=.returned (.tuple #[.agg #[.int .i64 M,.int .i64 z,.slice Q N c],.int .i64 0])∧Sl (ab .i16) w' (bin w w') Q N c ((List.range N).map (dX H V C t.data d.za K S P Wo))∧Below w w w':=by
 obtain ⟨HA,m,f⟩:=zh3 ha m f;have bh:M≤256:=by rw [← hM];exact Nat.mul_le_mul f.o.ho1.2 f.o.wo1.2
 have bd:z≤25600:=by rw [← O];exact Nat.mul_le_mul (Nat.mul_le_mul f.o.k1.2 f.o.k1.2) m.o.c1.2
 have bb:N≤256*25600:=by rw [← hN];exact Nat.mul_le_mul bh bd
 have br:(M:Int)*(z:Int)=(N:Int):=by rw [← hN];simp
 have ad:decide (0 < ag (H:Int) (V:Int) (C:Int)∧ag (H:Int) (V:Int) (C:Int)=n)=true:=by
  have e:=gP m.o;have e2:ag (H:Int) (V:Int) (C:Int)=(n:Int):=by
   rw [cO,if_pos]
   ·rw [m.o.n_eq,Int.natCast_mul,Int.natCast_mul]
   ·have:=m.o.h1;have:=m.o.v1;have:=m.o.c1;have h7:=m.o.n_le;rw [m.o.n_eq] at h7;exact ⟨by omega,by omega,by omega,by omega,by omega,by omega,by rw [← Int.natCast_mul,← Int.natCast_mul];omega⟩
  simp only [decide_eq_true_eq] at e ⊢;exact ⟨e,e2⟩
 have RI:=zH (fun w=>av (H:Int) (V:Int) (C:Int) A n G w (by have:=m.o.h1;rw [ai];omega) (by have:=m.o.v1;rw [ai];omega) (by have:=m.o.c1;rw [ai];omega) (lT ha.cap_le ha.max_le));rw [ad] at RI;obtain ⟨OV,WI⟩:=zh2 (fun w=>Bv H V C d W nw Z B nb cb Ho Wo w m.o.h1.2 m.o.v1.2 m.o.c1.2 hs) (fun w=>uI H V C d W nw Z B nb cb Ho Wo 1 K w f.o.k f.o.k1.2 m.o.c1.2);rw [O] at WI;have EL:=zH (fun w=>bL (Ho:Int) (1:Int) (Wo:Int) w (by have:=f.o.ho1;rw [ai];omega) (by have:=f.o.wo1;rw [ai];omega) (by rw [ai];omega));have ac:ag (Ho:Int) (Wo:Int) (1:Int)=(M:Int):=by
  have:=f.o.ho1;have:=f.o.wo1;rw [cO,if_pos ⟨by omega,by omega,by omega,by omega,by omega,by omega,by rw [Int.mul_one,← Int.natCast_mul,hM];omega⟩,Int.mul_one,← Int.natCast_mul,hM]
 rw [ac] at EL;obtain ⟨HZ,Y⟩:=zh2 hz (And.intro hM (And.intro O hN));have y:=zW w;obtain ⟨w1,w2,w3,bl,bc,bw,l1,l2,l3,v,j,q,ax⟩:=bk3 w (tN H V C A n G) 29 (nD d W nw Z B nb cb) 84 #[.int .i64 0,.int .i64 0,.slice none 0 0] 322;replace y:=zF ax y;clear ax;clear ha hz hs ac ad hM O hN;go_in
 go_wp2_with (first|(refine lG v.o ?_)|(go_at_call 58;refine qM (RI.o _) fun w4 l=>?_;have l4:=l.size;obtain ⟨y,v,j,q⟩:=uz4 l y v j q;clear l bl bc bw)|(refine lP 23 (sN H V C) v.o ?_)|(refine lG j.o ?_))
 refine qM (OV.o _) fun X l=>?_;have l5:=l.size;obtain ⟨y,v,j,q⟩:=uz4 l y v j q;clear l;obtain ⟨ay,ah⟩:∃ x,X.alloc (.cells #[.int .i64 0,.int .i64 0,.int .i64 0,.int .i64 0,.int .i64 0,.int .i64 0,.int .i64 0,.int .i64 0,.int .i64 0,.int .i64 0,.int .i8 0,.int .i8 0,.slice none 0 0,.slice none 0 0,.int .i32 0,.int .i64 0,.int .i8 0,.int .i32 0,.int .i64 0,.int .i8 0,.int .i8 0,.int .i8 0,.int .i64 0,.int .i64 0,.int .i64 0] 349)=x:=⟨_,rfl⟩;have l:Below X X ay:=by rw [← ah];exact (qB _ _).alloc (lR _) _
 have R:=zH (show Blk ay X.heap.size 349 #[.int .i64 0,.int .i64 0,.int .i64 0,.int .i64 0,.int .i64 0,.int .i64 0,.int .i64 0,.int .i64 0,.int .i64 0,.int .i64 0,.int .i8 0,.int .i8 0,.slice none 0 0,.slice none 0 0,.int .i32 0,.int .i64 0,.int .i8 0,.int .i32 0,.int .i64 0,.int .i8 0,.int .i8 0,.int .i8 0,.int .i64 0,.int .i64 0,.int .i64 0] by rw [← ah];exact Blk.now _ _ _ _ rfl);obtain ⟨y,v,j,q⟩:=uz4 l y v j q;clear l
 go_wp2_with (refine sG #[.int .i64 H,.int .i64 V,.int .i64 C,.int .i64 d.kind,.int .i64 d.a,.int .i64 d.b,.int .i64 d.k,.int .i64 d.s,.int .i64 d.p,.int .i64 d.out,.int .i8 d.za,.int .i8 d.zb,.slice W nw Z,.slice B nb cb,.int .i32 d.qm,.int .i64 d.qs,.int .i8 d.qz,.int .i32 d.rm,.int .i64 d.rs,.int .i8 d.rz,.int .i8 d.lo,.int .i8 d.hi,.int .i64 Ho,.int .i64 Wo,.int .i64 1] R.o ?_;intro D B6 g6)
 replace y:=zA g6 y;replace v:=zA g6 v;replace j:=zA g6 j;replace q:=zA g6 q;replace R:=zH B6;have an:X.heap.size < D.heap.size:=B6.lt;clear ah B6 g6;go_cut [8] (fun b wx=>∃ g,b=.pointer (some ⟨g,0,none⟩)∧Blk wx g 322 #[.int .i64 M,.int .i64 z,.slice none 0 0]∧D.heap.size≤g∧Below D D wx)
 case first =>
  refine wp_region_held_drew (S:=fun w'=>Blk w' X.heap.size 349 #[.int .i64 H,.int .i64 V,.int .i64 C,.int .i64 d.kind,.int .i64 d.a,.int .i64 d.b,.int .i64 d.k,.int .i64 d.s,.int .i64 d.p,.int .i64 d.out,.int .i8 d.za,.int .i8 d.zb,.slice W nw Z,.slice B nb cb,.int .i32 d.qm,.int .i64 d.qs,.int .i8 d.qz,.int .i32 d.rm,.int .i64 d.rs,.int .i8 d.rz,.int .i8 d.lo,.int .i8 d.hi,.int .i64 Ho,.int .i64 Wo,.int .i64 1]∧Below D D w') kM ?_ (fun i=>?_)
  ·exact ⟨R.o.drew,(qB _ _).drew⟩
  refine kH' 0 i ?_;refine tkH 1 rfl (yP (sN Ho Wo 1) (fun w hs=>hs.1)) i ?_;try simp only [pX]
  refine tkH 3 rfl (yB 349 (.tmp 6) X (fun w hs=>hs.1) underlying349) i ?_;try simp only [pX]
  refine wpAnyH_ready (rs:=[2,6]) kM sM ?_;refine AllReadyH.cons rfl (fun K r=>?_) (AllReadyH.cons rfl (fun K r=>?_) AllReadyH.nil)
  ·go_simp;refine qM (EL.o _) fun wa l=>?_;refine xK r (zR l i) fun i=>?_;clear r K;refine wpAnyH_ready (rs:=[4,6]) kM sM ?_;refine AllReadyH.cons rfl (fun K r=>?_) (AllReadyH.cons rfl (fun K r=>?_) AllReadyH.nil)
   ·go_simp;refine qM (WI.o _) fun wb l=>?_;refine xK r (zR l i) fun i=>?_;clear r K;refine kH' 5 i ?_;refine rH 6 rfl (fun K r=>?_);go_simp;have E:D.heap.size≤wb.heap.size:=i.2.size;obtain ⟨l,F⟩:=zB wb #[.int .i64 0,.int .i64 0,.slice none 0 0] 322;refine xK r (zR l i) fun i=>?_;clear r K;refine rH 7 rfl (fun K r=>?_);rw [if_pos (by rfl)];refine oG #[.int .i64 M,.int .i64 z,.slice none 0 0] F.o ?_;intro wc BX T;refine r.out _ _ ⟨i.1.away T (by have:=an;have:=E;simp only [World.size_drew] at *;omega),i.2.grown T i.2.size (fun k h=>by have:=sI h;have:=E;simp only [World.size_drew] at *;omega)⟩ (fun i=>?_);clear r K;try simp only [pX]
    refine wpAnyH_done kM ?_ _;have FZ:=i.2;go_wp2_with fail;go_meet
    case rel=>exact ⟨_,rfl,BX,E,FZ⟩
   ·go_simp;have E:D.heap.size≤wa.heap.size:=i.2.size;obtain ⟨l,F⟩:=zB wa #[.int .i64 0,.int .i64 0,.slice none 0 0] 322;refine xK r (zR l i) fun i=>?_;clear r K;refine rH 4 rfl (fun K r=>?_);go_simp;refine qM (WI.o _) fun wb l=>?_;replace F:=zH (F.o.later l);refine xK r (zR l i) fun i=>?_;clear r K;refine kH' 5 i ?_;refine rH 7 rfl (fun K r=>?_);rw [if_pos (by rfl)];refine oG #[.int .i64 M,.int .i64 z,.slice none 0 0] F.o ?_;intro wc BX T;refine r.out _ _ ⟨i.1.away T (by have:=an;have:=E;simp only [World.size_drew] at *;omega),i.2.grown T i.2.size (fun k h=>by have:=sI h;have:=E;simp only [World.size_drew] at *;omega)⟩ (fun i=>?_);clear r K;try simp only [pX]
    refine wpAnyH_done kM ?_ _;have FZ:=i.2;go_wp2_with fail;go_meet
    case rel=>exact ⟨_,rfl,BX,E,FZ⟩
  ·go_simp;have E:D.heap.size≤D.heap.size:=i.2.size;have l:Below D.drew.heap.size D.drew (D.drew.alloc (.cells #[.int .i64 0,.int .i64 0,.slice none 0 0] 322)):=(qB _ _).alloc (lR _) _;have F:=zH (Blk.now D.drew D.heap.size 322 #[.int .i64 0,.int .i64 0,.slice none 0 0] rfl);refine xK r (zR l i) fun i=>?_;clear r K;refine rH 2 rfl (fun K r=>?_);go_simp;refine qM (EL.o _) fun wa l=>?_;replace F:=zH (F.o.later l);refine xK r (zR l i) fun i=>?_;clear r K;refine rH 4 rfl (fun K r=>?_);go_simp;refine qM (WI.o _) fun wb l=>?_;replace F:=zH (F.o.later l);refine xK r (zR l i) fun i=>?_;clear r K;refine kH' 5 i ?_;refine rH 7 rfl (fun K r=>?_);rw [if_pos (by rfl)];refine oG #[.int .i64 M,.int .i64 z,.slice none 0 0] F.o ?_;intro wc BX T;refine r.out _ _ ⟨i.1.away T (by have:=an;have:=E;simp only [World.size_drew] at *;omega),i.2.grown T i.2.size (fun k h=>by have:=sI h;have:=E;simp only [World.size_drew] at *;omega)⟩ (fun i=>?_);clear r K;try simp only [pX]
   refine wpAnyH_done kM ?_ _;have FZ:=i.2;go_wp2_with fail;go_meet
   case rel=>exact ⟨_,rfl,BX,E,FZ⟩
 case rest =>
  obtain ⟨g,rfl,bg,E,b4⟩:=hcut;obtain ⟨J,rfl⟩:∃ x,x=wc:=⟨_,rfl⟩;have BG:=zH bg;clear bg;have bx:=BG.o.lt;obtain ⟨y,v,j,q,R⟩:=uz5 b4 y v j q R;clear b4;obtain ⟨r0,r1⟩:=uc2 BG 0 1;have e1:IntKind.i64.wrap ((M:Int)*(z:Int))=(N:Int):=by rw [br];exact wJ
  obtain ⟨bp,NB⟩:=zh2 BG.o (show w.heap.size < w1.heap.size∧w1.heap.size < w2.heap.size∧w2.heap.size < J.heap.size∧X.heap.size < J.heap.size∧g < J.heap.size∧w2.heap.size < g by refine ⟨?_,?_,?_,?_,?_,?_⟩ <;> omega)
  go_wp2_with (first|(at_make;refine wpList_make (t:=ab .i16) (S:=fun _=>False) (base:=J.heap.size) rfl _ _ rfl oQ .i64 .i64 _ _ N rfl rfl rfl rfl ?_ ?_ ?_ 0 ⟨rfl,by decide⟩ (fun _ h=>h.elim) ?_;rotate_right;intro w8 U hg;have kb:Below J J w8:=(qB _ _).grown hg (lR _) sM;have ON:=zH U;obtain ⟨y,v,j,q,R,BG⟩:=uz6 kb y v j q R BG;clear U hg kb r0 r1)|(refine wpList_store_one rfl 320 (.tmp 36) (.tmp 35) rfl g 2 (.slice (some ⟨J.heap.size,0,none⟩) N N) rfl rfl rfl rfl _ #[.int .i64 M,.int .i64 z,.slice none 0 0] #[.int .i64 M,.int .i64 z,.slice (some ⟨J.heap.size,0,none⟩) N N] BG.o sM kM rfl ?_;intro w9 B9 g9;have ba:=zH (R.o.away g9 (by have:=NB.o;omega)))|(refine lG ba.o ?_))
  rotate_left
  ·omega
  ·unfold maxLen;omega
  ·omega
  obtain ⟨bz,bA,bB,bD,bH,bM⟩:=NB.o;have O9:=zH (ON.o.flat g9 (.inr (by simp [Value.ownBlock];omega)) (fun _ h=>h));replace y:=zA g9 y;replace v:=zA g9 v;replace j:=zA g9 j;replace q:=zA g9 q;refine (AE H V C A n G t.data d W nw Z B nb cb Ho Wo K S P w.heap.size w1.heap.size g J.heap.size N w.heap.size J.heap.size M z (M:Int) (z:Int) w9 ((Old.now HA.o).fut y.u).out oM m.o.n_eq m.o.n_le HZ.o f.o.k f.o.s f.o.p f.o.k1 f.o.s1.2 f.o.p1.1 m.o.h1 m.o.v1 m.o.c1 (gP m.o) f.o.ho1 f.o.wo1 Y.o.1 Y.o.2.1 Y.o.2.2 v.o j.o B9 oM oM oM O9.o).mono ?_;rintro e bN ⟨rfl,I,L⟩;obtain ⟨be,bs⟩:=zh2 (B9.rowR L (fun e=>by have:=sI e;omega)) (q.o.rowR L (fun e=>by have:=sI e;omega));have bo:=zA L y;have bn:=zH I;clear I L B9 g9 O9 ON
  go_wp2_with (first|(refine lB 322 (.tmp 8) g be.o underlying322 ?_)|(refine sG #[.int .i64 M,.int .i64 z,.slice (some ⟨J.heap.size,0,none⟩) N N] bs.o ?_;intro bO bt al))
  have e2:=bn.o.flat al (.inr (by simp [Value.ownBlock];omega)) (fun _ h=>h);refine ret_cell_tmp rfl bt rfl underlying322 (by show _=some 3;kernel_rfl) rfl ?_;obtain ⟨A2,c2,hv,s⟩:=e2.sl (S':=bin w.heap.size _) dM (fun b h1 h2=>⟨by omega,h2⟩) (fun b h=>h.elim);injection hv with hv1 hv2 hv3
  subst hv1 hv3;exact ⟨_,_,rfl,s,(bo.o.away al oM).out⟩
def e88 (x:I8 × I8):Array Value:=#[Value.int .i8 x.1.1,.int .i8 x.2.1]
def sC (l l':List Int) (hl:∀ i,InK .i8 (l.getD i 0)) (hl':∀ i,InK .i8 (l'.getD i 0)) (i:Nat):I8 × I8:=(⟨l.getD i 0,hl i⟩,⟨l'.getD i 0,hl' i⟩)
structure eJ (S:Nat → Prop) (W W':World):Prop where
 size:W.heap.size≤W'.heap.size
 same:∀ k,S k → W'.heap[k]?=W.heap[k]?
theorem eJ.refl (S:Nat → Prop) (W:World):eJ S W W:=⟨lR _,fun _ _=>rfl⟩
theorem eJ.trans {S:Nat → Prop} {A B C:World} (h:eJ S A B) (k:eJ S B C):eJ S A C:=⟨lT h.size k.size,fun i hi=>(k.same i hi).trans (h.same i hi)⟩
theorem eJ.put {S:Nat → Prop} {m:Nat} (a:∀ k,S k → k < m) (W:World) (l:Nat) (o t:Obj) (r:m≤l) (h:W.heap[l]?=some o) (n:o.isCells=false) (s:o.isWalk=false):eJ S W (W.putObj l t) :=
 ⟨(grownBy_putObj' W l t).size,fun k i=>World.putObj_heap_other (fun e=>by have:=a k i;omega)⟩
theorem Blk.keepS {w w':World} {S:Nat → Prop} {g:Nat} {e:TypeId} {cs:Array Value} (h:Blk w g e cs) (a:eJ S w w') (t:S g):Blk w' g e cs:=⟨(a.same g t).trans h.heap⟩
theorem tX (S:Nat → Prop) (A Q:QA) (n x d:Nat) (l F:List Int) (I K m:Nat) (w:World)
  (D:Sl (ab .i8) w S A n x l) (r:Sl (ab .i8) w S Q n d F) (ah:n≤1024)
  (G:Blk w I 27 #[.slice A n x]) (j:Blk w K 27 #[.slice Q n d]) (C:S I∧S K) (V:∀ k,S k → k < w.heap.size) (hm:1≤m) :
  SeqStopsK Fence.wide m prog 185 #[.pointer (some ⟨I,0,none⟩),.pointer (some ⟨K,0,none⟩)] e88 (eJ S) (fun ys=>ys=(List.range n).map (sC l F D.allK r.allK)) (fun _=>True) n w:=by
 intro lo J Jx R N hJ M X h0;obtain ⟨s,y⟩:∃ f,sC l F D.allK r.allK=f:=⟨_,rfl⟩;have T:∀ i,(s i).1.1=l.getD i 0∧(s i).2.1=F.getD i 0:=fun i=>by rw [← y];exact ⟨rfl,rfl⟩
 rw [y];have t:eJ S w R:=⟨N.size,fun k Z=>N.block k (V k Z)⟩;obtain ⟨H,c,GB,G,j,HX,HY⟩:=zh7 (D.keep fun b h=>t.same b h) (r.keep fun b h=>t.same b h) C (G.keepS t C.1) (j.keepS t C.2) T X;have mx:n≤9223372036854775807:=oM;have a0:=G.o.cell 0;clear D r y N t hJ M X C V T;rw [callsIn_wide];simp only [List.append_toArray,List.cons_append,List.nil_append];go_in;go_wp2_with fail;clear a0;go_loopw [8] (fun P wr=>∃ k:Nat,k≤n∧P=.int .i64 k∧J ((List.range k).map s) wr∧eJ S R wr) (fun P _=>n - (intOf P).toNat)
 case atStart=>exact ⟨0,zl _,rfl,h0,eJ.refl _ _⟩
 case round =>
  obtain ⟨k,Z,rfl,Y,a⟩:=hrel;obtain ⟨j,H,c,q,HB⟩:=zh5 (j.o.keepS a GB.o.2) (H.o.keep fun b h=>a.same b h) (c.o.keep fun b h=>a.same b h) Y a;clear Y a;by_cases p:k < n
  ·have ad:(k:Int) < (n:Int):=oM;obtain ⟨b,o,rfl,-,-,cx,-⟩:=H.o.int_at k p;obtain ⟨b',o',rfl,-,-,cy,-⟩:=c.o.int_at k p;obtain ⟨v8,g⟩:∃ v:I8 × I8,s k=v:=⟨_,rfl⟩;have E:=HX.o k;rw [g] at E;rw [← E.1] at cx;rw [← E.2] at cy;have b0:=j.o.cell 0;simp only [List.getElem?_toArray,List.getElem?_cons_zero] at b0;have j8:∀ W,J ((List.range k).map s ++ [v8]) W → J ((List.range (k+1)).map s) W:=fun W h=>by
    rw [List.range_succ,List.map_append];show J (_ ++ [s k]) W;rw [g];exact h
   have J8:=zH j8;obtain ⟨fn,an,B,U,hy,hR⟩:=HY.o ((List.range k).map s) v8 wr q.o (by simpa using p);simp only [e88] at hy;clear g E j8
   go_upto_region 3 with fail
   rw [← wpIn_wide (n:=m)]
   gi_wp2
   refine hR.mono ?_;rintro e w4 (⟨rfl,L,O⟩|⟨rfl,z⟩)
   ·gi_wp2
    go_wp2;exact ⟨⟨k+1,by omega,by go_num,J8.o _ L,HB.o.trans O⟩,by simp [intOf];omega⟩
   ·gi_wp2
    go_wp2_with fail;refine bodyPost_ret (results_none rfl _ _ _) rfl ?_;exact ⟨⟨_,rfl⟩,.inr ⟨_,trivial,z⟩⟩
  ·obtain rfl:k=n:=oM;go_wp2_with fail;refine bodyPost_end (results_none rfl _ _ _) rfl ?_;exact ⟨⟨_,rfl⟩,.inl ⟨(List.range k).map s,by first|rfl|simp,q.o⟩⟩
theorem zj (A o:QA) (n a i t:Nat) (w:World) :
  Calls prog 153 #[.slice A n a,.slice o i t] w fun e w'=>e=.returned (.func (.func 185) #[] #[.pointer (some ⟨w.heap.size,0,none⟩),.pointer (some ⟨w.heap.size+1,0,none⟩)])∧w'=(w.alloc (.cells #[.slice A n a] 27)).alloc (.cells #[.slice o i t] 27):=by
 go_in;go_wp2;go_ret;exact ⟨rfl,rfl⟩
open Go.Proofs.YtbecbfpoahhpnaaGreat.Rk
theorem uc (A:QA) (n d:Nat) (l:List Int) (w:World) (h:xB w A n d l) :
  Calls prog 90 #[.slice A n d] w fun e w'=>e=.returned (.int .i64 (bestI l))∧Below w w w':=by
 have K:n≤9223372036854775807:=lT h.cap_le h.max_le;obtain ⟨j,H⟩:=zh2 h.n_eq h;clear h;go_in;go_wp2;go_loopw [3,8] (fun B m wr=>∃ k:Nat,k≤n∧m=.int .i64 k∧B=.int .i64 (bestTo l k)∧w=wr) (fun _ m _=>n - (intOf m).toNat)
 case atStart=>exact ⟨0,zl _,rfl,rfl,rfl⟩
 case round =>
  obtain ⟨k,J,rfl,rfl,rfl⟩:=hrel;by_cases c:k < n
  ·obtain ⟨E,off,rfl,_,_,G,L⟩:=H.o.int_at k c;have g:=bestTo_bd l k;have s:=zH (show bestTo l (k+1)=if bestTo l k < 0 ∨ l.getD (bestTo l k).toNat 0 < l.getD k 0 then (k:Int) else bestTo l k from rfl);generalize v:bestTo l k=b at *;clear v;by_cases t:b < 0
   ·have C:decide (b < 0)=true:=by simp;exact t
    have a:=zH (show (k:Int)=bestTo l (k+1) by rw [s.o,if_pos (.inl t)]);generalize l.getD k 0=x at *;clear s t;go_wp2;exact ⟨⟨k+1,by omega,by go_num,by rw [← a.o],trivial⟩,by simp [intOf];omega⟩
   ·obtain ⟨r,rfl⟩:∃ r:Nat,b=(r:Int):=⟨b.toNat,by omega⟩;have C:decide ((r:Int) < 0)=false:=by simp
    obtain ⟨F,f,p,_,_,I,M⟩:=H.o.int_at r oM;cases p;rw [Int.toNat_natCast] at s;generalize q:l.getD k 0=x at *;generalize z:l.getD r 0=y at *;clear q z;have N:(r:Int) < (n:Int):=oM;by_cases i:y < x
    ·have D:decide (y < x)=true:=by simp;exact i
     have a:=zH (show (k:Int)=bestTo l (k+1) by rw [s.o,if_pos (.inr i)]);clear s i t;go_wp2;exact ⟨⟨k+1,by omega,by go_num,by rw [← a.o],trivial⟩,by simp [intOf];omega⟩
    ·have D:decide (y < x)=false:=sO;have a:=zH (show (r:Int)=bestTo l (k+1) by rw [s.o,if_neg oM]);clear s i t;go_wp2;exact ⟨⟨k+1,by omega,by go_num,by rw [← a.o],trivial⟩,by simp [intOf];omega⟩
  ·obtain rfl:k=n:=oM;go_wp2;go_ret;exact ⟨bK (by unfold bestI;rw [j.out]),qB _ _⟩
end Go.Proofs.YtbecbfpoahhpnaaGreat
